/- walk of the law's asked -/
import Derived.Test.YtggdkplphfofkaaGreatCl
import Derived.Test.YtggdkplphfofkaaGreatOp
set_option linter.unusedVariables false
set_option linter.unusedSimpArgs false
set_option maxRecDepth 10000
namespace Go.Proofs.YtggdkplphfofkaaGreat.W
open Go.Vc Go.RowKit
section
variable {P : Program} {w0 w w' w1 : World} {B : Nat} {M : Nat → Prop} {σ τ : List As}
theorem St_argH {F : Nat → Prop} {R : World → Prop} (hw : St w0 w0.heap.size F (τ ++ σ) w) (hb : ∀ w1 : World, (∀ k, k < w0.heap.size → ¬ F k → w1.heap[k]? = w0.heap[k]?) → R w1) : ∀ w1 : World, (∀ k, k < w.heap.size → ¬ fps τ k → w1.heap[k]? = w.heap[k]?) → R w1 := fun w1 h1 =>
 hb w1 fun k hk hf => (h1 k (Nat.lt_of_lt_of_le hk hw.ext.size) fun ⟨A, hA, h⟩ => by
  rcases (hw.sep.lt (List.mem_append_left _ hA) k h).1 with h | h
  ·omega
  ·exact hf h).trans (hw.ext.block k hk hf)
theorem St_argX {F : Nat → Prop} {R : World → Prop} {A : As} (hw : St w0 w0.heap.size F σ w) (hA : A ∈ σ) (hb : ∀ w1 : World, (∀ k, k < w0.heap.size → ¬ F k → w1.heap[k]? = w0.heap[k]?) → R w1) : ∀ w1 : World, (∀ k, k < w.heap.size → ¬ A.fp k → w1.heap[k]? = w.heap[k]?) → R w1 := fun w1 h1 =>
 hb w1 fun k hk hf => (h1 k (Nat.lt_of_lt_of_le hk hw.ext.size) fun h => by
  rcases (hw.sep.lt hA k h).1 with h | h
  ·omega
  ·exact hf h).trans (hw.ext.block k hk hf)
theorem headI_ok {A : Option Addr} {c : Nat} {l : List Int} {w : World} (h : (As.ri 3 .i64 (.slice A (l.length + 1) c) (l ++ [42330])).ok w) : IV w (.slice A l.length c) (ints .i64 l) := by
 obtain ⟨A', c', e, hc, hs⟩ := Own.iv h
 injection e with e1 e2 e3
 subst e1 e3
 have hc' : l.length + 1 ≤ c := by simpa using hc
 refine ⟨A, c, by simp, by simp; omega, fun j v hj => hs j v ?_⟩
 have hj' : j < l.length := by simpa using (List.getElem?_eq_some_iff.1 hj).1
 rw [ints, List.map_append, List.getElem?_append_left (by simpa using hj')]
 exact hj
theorem someI_ok {A : Option Addr} {c : Nat} {l : List Int} {w : World} (h : (As.ri 3 .i64 (.slice A (l.length + 1) c) (l ++ [42330])).ok w) : ∃ ad, A = some ad := by
 obtain ⟨A', c', e, hc, hs⟩ := Own.iv h
 injection e with e1 e2 e3
 subst e1
 exact hs.some_ (by simp)
end
theorem askedL7 (b rb : Nat) (L : Cac) (F : List Bool) (hTw : Tw L F) (kd qq : Int) (A : Option Addr) (c : Nat) (ll : List Int) (ot : Bool) (hkd : -9223372036854775808 ≤ kd ∧ kd ≤ 9223372036854775807) (hqq : -9223372036854775808 ≤ qq ∧ qq ≤ 9223372036854775807) (hll : UI ll) (hcap : (ints .i64 ll).length ≤ c) (w : World) (hS : Sep w.heap.size (fps [As.blk b 64 (cacC L), As.many (inR L), As.blk rb 29 (refC F)]) w [As.blk b 64 (cacC L), As.many (inR L), As.blk rb 29 (refC F)]) (hv : ∀ w1 : World, (∀ k, k < w.heap.size → ¬ fps [As.blk b 64 (cacC L), As.many (inR L), As.blk rb 29 (refC F)] k → w1.heap[k]? = w.heap[k]?) → IV w1 (.slice A (ints .i64 ll).length c) (ints .i64 ll)) :
  CallsV P 6 [.pointer (some ⟨b, 0, none⟩), .pointer (some ⟨rb, 0, none⟩), .agg #[.int .i64 kd, .int .i64 qq, (.slice A (ints .i64 ll).length c), .bool ot]] w fun r w' => r = .bool true ∧ ∃ L' F', Tw L' F' ∧ Trans w w' [As.blk b 64 (cacC L), As.many (inR L), As.blk rb 29 (refC F)] [As.blk b 64 (cacC L'), As.many (inR L'), As.blk rb 29 (refC F')] := by
 refine enterW Tryz.func6 rfl Tryz.ntmps6 rfl ?_
 have hw0 : St w w.heap.size (fps [As.blk b 64 (cacC L), As.many (inR L), As.blk rb 29 (refC F)]) [As.blk b 64 (cacC L), As.many (inR L), As.blk rb 29 (refC F)] w := St.startS hS
 have htm := tmod_bd (a := qq) (w := 1000) (by omega)
 have hk4 := witF_bd (n := kd) (lo := 0) (hi := 4) (by omega)
 refine c_seq (c_region ?_)
 refine l_box hw0 rfl rfl rfl (fun b0_0 w1 hw1 => ?_)
 try clear hw0
 refine l_assign rfl rfl rfl (l_nil (e_then ?_))
 refine c_keep [0, 1, 5] (.cons rfl (.cons rfl (.cons rfl .nil))) ?_
 refine c_seq (c_region (l_field fo34_1 rfl rfl rfl ?_))
 refine l_load_blk hw1 mem0 rfl rfl Tryz.underlying3 rfl rfl rfl ?_
 refine l_assign rfl rfl rfl (l_nil (e_then ?_))
 refine c_keep [0, 1, 5, 7] (.cons rfl (.cons rfl (.cons rfl (.cons rfl .nil)))) ?_
 refine c_cutk (ι := Int) (fun (q : Int) (w' : World) => St w w.heap.size (fps [As.blk b 64 (cacC L), As.many (inR L), As.blk rb 29 (refC F)]) ([As.blk b0_0 34 [.int .i64 kd, .int .i64 qq, (.slice A (ints .i64 ll).length c), .bool ot], As.blk b 64 (cacC L), As.many (inR L), As.blk rb 29 (refC F)]) w' ∧ -9223372036854775808 ≤ q ∧ q ≤ 9223372036854775807) (fun (q : Int) => [(7, .int .i64 q)]) [0, 1, 5] (.cons rfl (.cons rfl (.cons rfl .nil))) ?_ ?_
 ·skip
  refine c_seq (c_region (l_move rfl rfl rfl ?_))
  refine l_gtr rfl rfl rfl rfl ?_
  refine l_move rfl rfl rfl ?_
  apply l_or 2 [0, 1, 5, 7] rfl rfl (.cons rfl (.cons rfl (.cons rfl (.cons rfl (.cons rfl .nil))))) rfl rfl (fun _ => rfl) rfl rfl rfl
  ·intro hg2_3
   refine l_move rfl rfl rfl ?_
   refine l_lss rfl rfl rfl rfl ?_
   refine l_nil ?_
   exact e_stays rfl (.cons rfl (congrArg Value.bool (decide_eq_false hg2_3).symm) (.cons rfl rfl (.cons rfl rfl (.cons rfl rfl (.cons rfl rfl .nil)))))
  refine l_nil (e_then ?_)
  refine c_keep [0, 1, 5, 7, 23] (.cons rfl (.cons rfl (.cons rfl (.cons rfl (.cons rfl .nil))))) ?_
  first | refine c_cond rfl (fun hc0 => ?_) (fun hc0 => ?_) | refine c_condb rfl (fun hc0 => ?_) (fun hc0 => ?_)
  ·skip
   refine c_region (l_move rfl rfl rfl ?_)
   refine l_rem rfl rfl rfl rfl (by omega) (rfl) ?_
   refine l_assign rfl rfl rfl (l_nil ?_)
   refine e_meetk (qq.tmod 1000) ?_ (.cons rfl (.cons rfl (.cons rfl .nil))) ?_
   ·exact ⟨hw1, by omega⟩
   ·exact (.cons rfl (by first | rfl | (refine congrArg (Value.int _) ?_; omega)) .nil)
  ·skip
   refine c_skip ?_
   refine e_meetk (qq) ?_ (.cons rfl (.cons rfl (.cons rfl .nil))) ?_
   ·exact ⟨hw1, hqq⟩
   ·exact (.cons rfl (by first | rfl | (refine congrArg (Value.int _) ?_; omega)) .nil)
 rintro q w2 ⟨hw2, hq⟩
 show RunC P _ _ _ (_ :: _) _
 refine c_seq (c_seq (c_region (l_field fo34_0 rfl rfl rfl ?_)))
 refine l_load_blk hw2 mem0 rfl rfl Tryz.underlying3 rfl rfl rfl ?_
 refine l_callp rfl rfl Tryz.func14 rfl rfl (.cons rfl (.cons rfl (.cons rfl .nil))) (withinW kd 0 4 hkd (by omega) _) ?_
 refine l_nil (e_then ?_)
 refine c_keep [0, 1, 5, 7, 28] (.cons rfl (.cons rfl (.cons rfl (.cons rfl (.cons rfl .nil))))) ?_
 refine c_block (c_seq (c_region ?_))
 refine l_eql rfl rfl rfl rfl ?_
 refine l_assign rfl rfl rfl (l_nil (e_then ?_))
 refine c_keep [0, 1, 5, 7, 28, 29] (.cons rfl (.cons rfl (.cons rfl (.cons rfl (.cons rfl (.cons rfl .nil)))))) ?_
 first | refine c_cond rfl (fun hc1 => ?_) (fun hc1 => ?_) | refine c_condb rfl (fun hc1 => ?_) (fun hc1 => ?_)
 ·skip
  refine c_seq (c_region (l_move rfl rfl rfl (l_move rfl rfl rfl ?_)))
  have hw3 := St.frontL (l := [_, _]) hw2
  simp only [List.cons_append, List.nil_append] at hw3
  try clear hw2
  have hw4 := St.frontL (l := [_, _]) hw3
  simp only [List.cons_append, List.nil_append] at hw4
  try clear hw3
  refine l_call rfl rfl Tryz.func12 rfl rfl (.cons rfl (.cons rfl .nil)) (EntryC b L hTw.1 q hq w2 (St.rows (τ := cacW b L) hw4)) ?_
  rintro _ w5 ⟨L2, rfl, hQ, hX⟩
  have hw5 := hX _ _ _ _ hw4
  simp only [cacW, List.cons_append, List.nil_append] at hw5
  try clear hX hw4
  refine l_move rfl rfl rfl (l_extract rfl rfl rfl rfl (l_extract rfl rfl rfl rfl (l_extract rfl rfl rfl rfl ?_)))
  refine l_alloc hw5 ta67 rfl rfl (fun b6_7 w6 hw6 => ?_)
  try clear hw5
  refine l_store_blks hw6 .head (.zero (.zero .nil)) rfl tz67 rfl rfl (by first | (simp [Value.oneCell']; done) | (intro u hu; simp only [List.mem_cons, List.not_mem_nil, or_false] at hu; rcases hu with rfl | rfl <;> first | rfl | assumption)) (fun w7 hw7 => ?_)
  try clear hw6
  refine l_assign rfl rfl rfl (l_assign rfl rfl rfl (l_nil (e_then ?_)))
  refine c_keep [1, 7, 8, 9, 10] (.cons rfl (.cons rfl (.cons rfl (.cons rfl (.cons rfl .nil))))) ?_
  refine c_seq (c_region (l_move rfl rfl rfl (l_move rfl rfl rfl ?_)))
  have hw8 := St.frontL (l := [_, _, _, _]) hw7
  simp only [List.cons_append, List.nil_append] at hw8
  try clear hw7
  refine l_call rfl rfl Tryz.func15 rfl rfl (.cons rfl (.cons rfl .nil)) (EntryR rb F hTw.2.1 q hq w7 (St.rows (τ := [As.blk rb 29 (refC F)]) hw8)) ?_
  rintro _ w9 ⟨rfl, hX⟩
  have hw9 := hX _ _ _ _ hw8
  simp only [List.cons_append, List.nil_append] at hw9
  try clear hX hw8
  have hT2 := hTw.q hQ
  refine l_move rfl rfl rfl (l_extract rfl rfl rfl rfl (l_extract rfl rfl rfl rfl (l_extract rfl rfl rfl rfl ?_)))
  refine l_alloc hw9 ta67 rfl rfl (fun b7_7 w10 hw10 => ?_)
  try clear hw9
  refine l_store_blks hw10 .head (.zero (.zero .nil)) rfl tz67 rfl rfl (by first | (simp [Value.oneCell']; done) | (intro u hu; simp only [List.mem_cons, List.not_mem_nil, or_false] at hu; rcases hu with rfl | rfl <;> first | rfl | assumption)) (fun w11 hw11 => ?_)
  try clear hw10
  refine l_assign rfl rfl rfl (l_assign rfl rfl rfl (l_nil (e_then ?_)))
  refine c_keep [8, 9, 10, 11, 12, 13] (.cons rfl (.cons rfl (.cons rfl (.cons rfl (.cons rfl (.cons rfl .nil)))))) ?_
  refine c_seq (c_region ?_)
  refine l_load_agg hw11 mem2 rfl rfl Tryz.underlying67 rfl tz67 rfl (.take (.take .nil)) ?_
  refine l_load_agg hw11 mem0 rfl rfl Tryz.underlying67 rfl tz67 rfl (.take (.take .nil)) ?_
  refine l_eqlA rfl rfl fl67 rfl rfl (.int rfl rfl (.int rfl rfl .nil)) ?_
  refine l_turn (s := 47) (v' := .bool true) rfl (by simp) ?_
  refine l_move rfl rfl rfl (l_move rfl rfl rfl (l_move rfl rfl rfl ?_))
  refine l_eql rfl rfl rfl rfl ?_
  refine l_turn (s := 51) (v' := .bool true) rfl (by simp) ?_
  refine l_pick_t rfl rfl rfl rfl ?_
  refine l_move rfl rfl rfl (l_move rfl rfl rfl ?_)
  refine l_callp rfl rfl Tryz.func13 rfl rfl (.cons rfl .nil) (numL7 _ _) ?_
  refine l_move rfl rfl rfl ?_
  refine l_eql rfl rfl rfl rfl ?_
  refine l_turn (s := 57) (v' := .bool true) rfl (by simp) ?_
  refine l_pick_t rfl rfl rfl rfl ?_
  refine l_assign rfl rfl rfl (l_nil (e_then ?_))
  refine c_keep [6] (.cons rfl .nil) ?_
  refine c_ret ?_
  refine e_blk_ret ?_
  refine e_then_ret ?_
  refine e_done1 Tryz.results6 rfl ?_
  refine ⟨_, rfl, ?_⟩
  have hw12 := St.front1 hw11
  try clear hw11
  have hw13 := St.front4 hw12
  try clear hw12
  have hw14 := St.front4 hw13
  try clear hw13
  have hw15 := St.del (.tail (.tail (.tail (.tail (.tail .head))))) hw14
  try clear hw14
  have hw16 := St.del (.tail (.tail (.tail (.tail .head)))) hw15
  try clear hw15
  have hw17 := St.del (.tail (.tail (.tail .head))) hw16
  try clear hw16
  exact ⟨rfl, L2, _, hT2, hw17.transS⟩
 ·skip
  refine c_seq (c_region ?_)
  refine l_eql rfl rfl rfl rfl ?_
  refine l_assign rfl rfl rfl (l_nil (e_then ?_))
  refine c_keep [0, 1, 5, 7, 28, 59] (.cons rfl (.cons rfl (.cons rfl (.cons rfl (.cons rfl (.cons rfl .nil)))))) ?_
  first | refine c_cond rfl (fun hc2 => ?_) (fun hc2 => ?_) | refine c_condb rfl (fun hc2 => ?_) (fun hc2 => ?_)
  ·skip
   refine c_seq (c_region (l_field fo34_2 rfl rfl rfl ?_))
   refine l_load_blk hw2 mem0 rfl rfl Tryz.underlying32 rfl rfl rfl ?_
   refine l_assign rfl rfl rfl (l_nil (e_then ?_))
   refine c_keep [0, 1, 14] (.cons rfl (.cons rfl (.cons rfl .nil))) ?_
   refine c_cutk (ι := Nat) (fun (m : Nat) (w' : World) => St w w.heap.size (fps [As.blk b 64 (cacC L), As.many (inR L), As.blk rb 29 (refC F)]) ([As.blk b 64 (cacC L), As.many (inR L), As.blk rb 29 (refC F)]) w' ∧ m ≤ 30 ∧ m ≤ ll.length) (fun (m : Nat) => [(14, .slice A m c)]) [0, 1] (.cons rfl (.cons rfl .nil)) ?_ ?_
   ·skip
    refine c_seq (c_region (l_move rfl rfl rfl ?_))
    refine v_leni rfl rfl Tryz.underlying32 rfl (by first | exact hw2.ibl mem0 | exact hw2.ibl mem1 | exact hw2.ibl mem3 | exact hw2.ikM hv | exact hw2.ikM hv2 | assumption) ?_
    refine l_gtr rfl rfl rfl rfl ?_
    refine l_nil (e_then ?_)
    refine c_keep [0, 1, 14, 65] (.cons rfl (.cons rfl (.cons rfl (.cons rfl .nil)))) ?_
    first | refine c_cond rfl (fun hc3 => ?_) (fun hc3 => ?_) | refine c_condb rfl (fun hc3 => ?_) (fun hc3 => ?_)
    ·skip
     refine c_region (l_move rfl rfl rfl ?_)
     refine l_slice (size := 1) (l := 0) (h := 30) (mm := c) rfl rfl Tryz.underlying32 tz3 rfl rfl rfl rfl rfl rfl rfl (by simp) (by omega) (by simp at hcap; omega) (by omega) ?_
     refine l_turn (s := 67) (v' := .slice A 30 c) rfl (by simp [cutA0]) ?_
     refine l_assign rfl rfl rfl (l_nil ?_)
     have hw18 := St.frontL (l := [_, _, _]) hw2
     simp only [List.cons_append, List.nil_append] at hw18
     try clear hw2
     have hw19 := St.frontL (l := [_, _, _]) hw18
     simp only [List.cons_append, List.nil_append] at hw19
     try clear hw18
     have hw20 := St.frontL (l := [_, _, _]) hw19
     simp only [List.cons_append, List.nil_append] at hw20
     try clear hw19
     have hw21 := St.del (.tail (.tail (.tail .head))) hw20
     try clear hw20
     refine e_meetk (30) ?_ (.cons rfl (.cons rfl .nil)) ?_
     ·exact ⟨hw21, by omega, by omega⟩
     ·exact (.cons rfl (by first | rfl | simp) .nil)
    ·skip
     refine c_skip ?_
     have hw22 := St.frontL (l := [_, _, _]) hw2
     simp only [List.cons_append, List.nil_append] at hw22
     try clear hw2
     have hw23 := St.frontL (l := [_, _, _]) hw22
     simp only [List.cons_append, List.nil_append] at hw23
     try clear hw22
     have hw24 := St.frontL (l := [_, _, _]) hw23
     simp only [List.cons_append, List.nil_append] at hw24
     try clear hw23
     have hw25 := St.del (.tail (.tail (.tail .head))) hw24
     try clear hw24
     refine e_meetk (ll.length) ?_ (.cons rfl (.cons rfl .nil)) ?_
     ·exact ⟨hw25, by omega, by omega⟩
     ·exact (.cons rfl (by first | rfl | simp) .nil)
   rintro m w26 ⟨hw26, hm30, hmll⟩
   have hl2 : (ll.take m).length = m := by rw [List.length_take]; omega
   have hv2 : ∀ w1 : World, (∀ k, k < w.heap.size → ¬ fps [As.blk b 64 (cacC L), As.many (inR L), As.blk rb 29 (refC F)] k → w1.heap[k]? = w.heap[k]?) → IV w1 (.slice A m c) (ints .i64 (ll.take m)) := fun w1 h => by
    have h1 := hv w1 h
    have h2 := IV.head h1 (h := m) (by simpa using hmll)
    rw [show (ints .i64 ll).take m = ints .i64 (ll.take m) from by simp [ints, List.map_take]] at h2
    exact h2
   show RunC P _ _ _ (_ :: _) _
   refine c_seq (c_region (l_move rfl rfl rfl ?_))
   refine l_call rfl rfl Tryz.func16 rfl rfl (.cons rfl .nil) (lendI (.slice A m c) (ll.take m) (fun x hx => hll x (List.mem_of_mem_take hx)) (by rw [List.length_take]; omega) w26 (hw26.ikM hv2)) ?_
   rintro _ w27 ⟨Ax, cx, rfl, hG⟩
   have hw27 := hG _ _ _ _ hw26
   try clear hG hw26
   simp only [List.cons_append, List.nil_append] at hw27
   obtain ⟨ad, rfl⟩ := someI_ok (hw27.ok mem0)
   refine l_assign rfl rfl rfl (l_nil (e_then ?_))
   refine c_keep [0, 1, 14, 15] (.cons rfl (.cons rfl (.cons rfl (.cons rfl .nil)))) ?_
   refine c_seq (c_region (l_move rfl rfl rfl (l_move rfl rfl rfl ?_)))
   have hw28 := St.frontL (l := [_, _]) hw27
   simp only [List.cons_append, List.nil_append] at hw28
   try clear hw27
   have hw29 := St.frontL (l := [_, _]) hw28
   simp only [List.cons_append, List.nil_append] at hw29
   try clear hw28
   refine l_call rfl rfl Tryz.func17 rfl rfl (.cons rfl (.cons rfl .nil)) (WarmC b L hTw.1 (.slice (some ad) (ll.take m).length cx) (ll.take m) (fun x hx => hll x (List.mem_of_mem_take hx)) (by rw [List.length_take]; omega) w27 (St.rows (τ := cacW b L) hw29) (St_argR (τ := cacW b L) hw29 (A := As.ri 3 .i64 (.slice (some ad) ((ll.take m).length + 1) cx) (ll.take m ++ [42330])) (.head _) (R := fun w1 => IV w1 (.slice (some ad) (ll.take m).length cx) (ints .i64 (ll.take m))) (fun w1 h => headI_ok h))) ?_
   rintro _ w30 ⟨L2, rfl, hWc, hX⟩
   have hw30 := hX _ _ _ _ hw29
   simp only [cacW, List.cons_append, List.nil_append] at hw30
   try clear hX hw29
   have hT2 : Tw L2 (if warmE (ll.take m) = 0 then warmF F (ll.take m) else F) := by
    split at hWc
    ·rename_i h; rw [if_pos h]; exact hTw.l hWc
    ·rename_i h; rw [if_neg h, hWc]; exact hTw
   refine l_callp rfl rfl Tryz.func13 rfl rfl (.cons rfl .nil) (numL7 _ _) ?_
   refine l_move rfl rfl rfl (l_move rfl rfl rfl ?_)
   have hw31 := St.frontL (l := [_, _, _]) hw30
   simp only [List.cons_append, List.nil_append] at hw31
   try clear hw30
   refine l_call rfl rfl Tryz.func18 rfl rfl (.cons rfl (.cons rfl .nil)) (WarmR rb F hTw.2.1 (.slice A m c) (ll.take m) (fun x hx => hll x (List.mem_of_mem_take hx)) (by rw [List.length_take]; omega) w30 (St.rows (τ := [As.blk rb 29 (refC F)]) hw31) (St_argH (τ := [As.blk rb 29 (refC F)]) hw31 hv2)) ?_
   rintro _ w32 ⟨rfl, hX⟩
   have hw32 := hX _ _ _ _ hw31
   simp only [List.cons_append, List.nil_append] at hw32
   try clear hX hw31
   refine l_eql rfl rfl rfl rfl ?_
   refine l_turn (s := 77) (v' := .bool true) rfl (by simp) ?_
   refine l_move rfl rfl rfl (l_move rfl rfl rfl (l_move rfl rfl rfl ?_))
   refine l_call rfl rfl Tryz.func19 rfl rfl (.cons rfl (.cons rfl .nil)) (backI ad cx (.slice A m c) (ll.take m) (fun x hx => hll x (List.mem_of_mem_take hx)) (by rw [List.length_take]; omega) w32 (hw32.ok mem3) (hw32.rowlt mem3) (St_argX hw32 mem3 hv2)) ?_
   rintro _ w33 ⟨rfl, lox, hT⟩
   have hw33 := hT _ _ _ _ _ (.tail (.tail (.tail .head))) hw32
   try clear hT hw32
   refine l_turn (s := 81) (v' := .bool true) rfl (by rfl) ?_
   refine l_pick_t rfl rfl rfl rfl ?_
   refine l_assign rfl rfl rfl (l_nil (e_then ?_))
   refine c_keep [6] (.cons rfl .nil) ?_
   refine c_ret ?_
   refine e_blk_ret ?_
   refine e_then_ret ?_
   refine e_done1 Tryz.results6 rfl ?_
   refine ⟨_, rfl, ?_⟩
   have hw34 := St.front2 hw33
   try clear hw33
   have hw35 := St.front2 hw34
   try clear hw34
   have hw36 := St.del (.tail (.tail (.tail .head))) hw35
   try clear hw35
   exact ⟨rfl, L2, _, hT2, hw36.transS⟩
  ·skip
   refine c_seq (c_region ?_)
   refine l_eql rfl rfl rfl rfl ?_
   refine l_assign rfl rfl rfl (l_nil (e_then ?_))
   refine c_keep [0, 1, 7, 28, 83] (.cons rfl (.cons rfl (.cons rfl (.cons rfl (.cons rfl .nil))))) ?_
   first | refine c_cond rfl (fun hc4 => ?_) (fun hc4 => ?_) | refine c_condb rfl (fun hc4 => ?_) (fun hc4 => ?_)
   ·skip
    refine c_seq (c_region ?_)
    have hbt : ∀ h : (0 ≤ q ∧ q < 41), hasP L q.toNat = F.getD q.toNat false := fun h => hTw.2.2 _ (by omega)
    refine l_move rfl rfl rfl (l_move rfl rfl rfl ?_)
    refine l_callp rfl rfl Tryz.func7 rfl rfl (.cons rfl (.cons rfl .nil)) (BuiltC b L hTw.1 q _ (hw2.ok mem1) (hw2.ok mem2)) ?_
    refine l_move rfl rfl rfl (l_move rfl rfl rfl ?_)
    refine l_callp rfl rfl Tryz.func8 rfl rfl (.cons rfl (.cons rfl .nil)) (TimesR rb F hTw.2.1 q _ (hw2.ok mem3)) ?_
    refine l_eql rfl rfl rfl rfl ?_
    refine l_turn (s := 91) (v' := .bool true) rfl (by rw [decide_eq_true]; by_cases h : 0 ≤ q ∧ q < 41 <;> simp [h, hbt] <;> cases F[q.toNat]?.getD false <;> rfl) ?_
    refine l_assign rfl rfl rfl (l_nil (e_then ?_))
    refine c_keep [6] (.cons rfl .nil) ?_
    refine c_ret ?_
    refine e_blk_ret ?_
    refine e_then_ret ?_
    refine e_done1 Tryz.results6 rfl ?_
    refine ⟨_, rfl, ?_⟩
    have hw37 := St.front3 hw2
    try clear hw2
    have hw38 := St.front3 hw37
    try clear hw37
    have hw39 := St.front3 hw38
    try clear hw38
    have hw40 := St.del (.tail (.tail (.tail .head))) hw39
    try clear hw39
    exact ⟨rfl, L, F, hTw, hw40.transS⟩
   ·skip
    refine c_seq (c_region ?_)
    refine l_eql rfl rfl rfl rfl ?_
    refine l_assign rfl rfl rfl (l_nil (e_then ?_))
    refine c_keep [0, 1, 7, 92] (.cons rfl (.cons rfl (.cons rfl (.cons rfl .nil)))) ?_
    first | refine c_cond rfl (fun hc5 => ?_) (fun hc5 => ?_) | refine c_condb rfl (fun hc5 => ?_) (fun hc5 => ?_)
    ·skip
     refine c_seq (c_region ?_)
     have hbt : ∀ h : (0 ≤ q ∧ q < 41), hasP L q.toNat = F.getD q.toNat false := fun h => hTw.2.2 _ (by omega)
     refine l_move rfl rfl rfl (l_move rfl rfl rfl ?_)
     refine l_callp rfl rfl Tryz.func9 rfl rfl (.cons rfl (.cons rfl .nil)) (CompleteC b L hTw.1 q _ (hw2.ok mem1) (hw2.ok mem2)) ?_
     refine l_move rfl rfl rfl (l_move rfl rfl rfl ?_)
     refine l_callp rfl rfl Tryz.func8 rfl rfl (.cons rfl (.cons rfl .nil)) (TimesR rb F hTw.2.1 q _ (hw2.ok mem3)) ?_
     refine l_gtr rfl rfl rfl rfl ?_
     refine l_eqlb Tryz.underlying4 rfl rfl rfl rfl ?_
     refine l_turn (s := 101) (v' := .bool true) rfl (by rw [decide_eq_true]; by_cases h : 0 ≤ q ∧ q < 41 <;> simp [h, hbt] <;> cases F[q.toNat]?.getD false <;> rfl) ?_
     refine l_assign rfl rfl rfl (l_nil (e_then ?_))
     refine c_keep [6] (.cons rfl .nil) ?_
     refine c_ret ?_
     refine e_blk_ret ?_
     refine e_then_ret ?_
     refine e_done1 Tryz.results6 rfl ?_
     refine ⟨_, rfl, ?_⟩
     have hw41 := St.front3 hw2
     try clear hw2
     have hw42 := St.front3 hw41
     try clear hw41
     have hw43 := St.front3 hw42
     try clear hw42
     have hw44 := St.del (.tail (.tail (.tail .head))) hw43
     try clear hw43
     exact ⟨rfl, L, F, hTw, hw44.transS⟩
    ·skip
     refine c_skip ?_
     refine e_blk ?_
     refine e_then ?_
     refine c_keep [0, 1] (.cons rfl (.cons rfl .nil)) ?_
     refine c_seq (c_region ?_)
     have hhh := hTw.held
     refine l_move rfl rfl rfl ?_
     refine l_callp rfl rfl Tryz.func10 rfl rfl (.cons rfl .nil) (HeldC b L hTw.1 _ (hw2.ok mem1) (hw2.ok mem2)) ?_
     refine l_move rfl rfl rfl ?_
     refine l_callp rfl rfl Tryz.func11 rfl rfl (.cons rfl .nil) (HeldR rb F hTw.2.1 _ (hw2.ok mem3)) ?_
     refine l_eql rfl rfl rfl rfl ?_
     refine l_turn (s := 106) (v' := .bool true) rfl (by rw [decide_eq_true hhh]) ?_
     refine l_assign rfl rfl rfl (l_nil (e_then ?_))
     refine c_keep [6] (.cons rfl .nil) ?_
     refine c_ret ?_
     refine e_done1 Tryz.results6 rfl ?_
     refine ⟨_, rfl, ?_⟩
     have hw45 := St.front3 hw2
     try clear hw2
     have hw46 := St.front3 hw45
     try clear hw45
     have hw47 := St.front3 hw46
     try clear hw46
     have hw48 := St.del (.tail (.tail (.tail .head))) hw47
     try clear hw47
     exact ⟨rfl, L, F, hTw, hw48.transS⟩
end Go.Proofs.YtggdkplphfofkaaGreat.W
