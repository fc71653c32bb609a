/- walk of the law CacheWarms -/
import Derived.Test.YtggdkplphfofkaaGreatCe
set_option linter.unusedVariables false
set_option linter.unusedSimpArgs false
set_option maxRecDepth 10000
namespace Go.Proofs.YtggdkplphfofkaaGreat.W
open Go.Vc Go.RowKit
theorem tmod_bd {a w : Int} (h : 0 < w) : -w < a.tmod w ∧ a.tmod w < w := by
 by_cases h0 : 0 ≤ a
 ·rw [Int.tmod_eq_emod_of_nonneg h0]
  have := Int.emod_nonneg a (show w ≠ 0 by omega)
  have := Int.emod_lt_of_pos a h
  omega
 ·have e := Int.neg_tmod (a := a) (b := w)
  rw [Int.tmod_eq_emod_of_nonneg (show 0 ≤ -a by omega)] at e
  have := Int.emod_nonneg (-a) (show w ≠ 0 by omega)
  have := Int.emod_lt_of_pos (-a) h
  omega
def witF (n lo hi : Int) : Int := if n.tmod (hi - lo + 1) < 0 then lo + (n.tmod (hi - lo + 1) + (hi - lo + 1)) else lo + n.tmod (hi - lo + 1)
theorem witF_bd {n lo hi : Int} (h : lo ≤ hi) : lo ≤ witF n lo hi ∧ witF n lo hi ≤ hi := by
 have := tmod_bd (a := n) (w := hi - lo + 1) (by omega)
 unfold witF
 split <;> omega
theorem take_snoc' {l : List Int} {i : Nat} (h : i < l.length) : l.take (i + 1) = l.take i ++ [l.getD i 0] := by
 rw [List.take_add_one, List.getD_eq_getElem?_getD, List.getElem?_eq_getElem h]
 rfl
theorem ints_snoc (k : IntKind) (l : List Int) (x : Int) : ints k (l ++ [x]) = ints k l ++ [.int k x] := by simp [ints]
theorem St_argR {w0 w : World} {B : Nat} {M : Nat → Prop} {σ τ : List As} (hw : St w0 B M (τ ++ σ) w) {A : As} (hA : A ∈ σ) {R : World → Prop} (h : ∀ w1, A.ok w1 → R w1) : ∀ w1 : World, (∀ k, k < w.heap.size → ¬ fps τ k → w1.heap[k]? = w.heap[k]?) → R w1 := fun w1 h1 =>
 h w1 (A.loc w w1 (fun k hk => h1 k (hw.sep.lt (List.mem_append_right _ hA) k hk).2 fun ⟨X, hX, hk'⟩ => hw.sep.cross X hX A hA k hk' hk) (hw.sep.ok (List.mem_append_right _ hA)))
theorem withinW (n lo hi : Int) (hn : -9223372036854775808 ≤ n ∧ n ≤ 9223372036854775807) (hlo : lo ≤ hi ∧ hi ≤ 1000000 ∧ -1000000 ≤ lo) (w : World) :
  CallsV P 14 [.int .i64 n, .int .i64 lo, .int .i64 hi] w fun r w' => r = .int .i64 (witF n lo hi) ∧ w = w' := by
 refine enterW Tryz.func14 rfl Tryz.ntmps14 rfl ?_
 have htm := tmod_bd (a := n) (w := hi - lo + 1) (by omega)
 refine c_seq (c_region (l_assign rfl rfl rfl (l_nil (e_then ?_))))
 refine c_keep [0, 1, 2] (.cons rfl (.cons rfl (.cons rfl .nil))) ?_
 refine c_seq (c_region (l_move rfl rfl rfl (l_move rfl rfl rfl ?_)))
 refine l_sub rfl rfl rfl rfl (w_i64 (by omega)) ?_
 refine l_add rfl rfl rfl rfl (w_i64 (by omega)) ?_
 refine l_assign rfl rfl rfl (l_nil (e_then ?_))
 refine c_keep [0, 1, 7] (.cons rfl (.cons rfl (.cons rfl .nil))) ?_
 refine c_seq (c_region (l_move rfl rfl rfl (l_move rfl rfl rfl ?_)))
 refine l_rem rfl rfl rfl rfl (by omega) (rfl) ?_
 refine l_assign rfl rfl rfl (l_nil (e_then ?_))
 refine c_keep [0, 1, 7] (.cons rfl (.cons rfl (.cons rfl .nil))) ?_
 refine c_seq (c_seq (c_region (l_move rfl rfl rfl ?_)))
 refine l_lss rfl rfl rfl rfl ?_
 refine l_nil (e_then ?_)
 refine c_keep [0, 1, 7, 16] (.cons rfl (.cons rfl (.cons rfl (.cons rfl .nil)))) ?_
 first | refine c_cond rfl (fun hc0 => ?_) (fun hc0 => ?_) | refine c_condb rfl (fun hc0 => ?_) (fun hc0 => ?_)
 ·skip
  refine c_region (l_move rfl rfl rfl (l_move rfl rfl rfl ?_))
  refine l_add rfl rfl rfl rfl (w_i64 (by omega)) ?_
  refine l_assign rfl rfl rfl (l_nil (e_then ?_))
  refine c_keep [0, 1] (.cons rfl (.cons rfl .nil)) ?_
  refine c_seq (c_region (l_move rfl rfl rfl (l_move rfl rfl rfl ?_)))
  refine l_add rfl rfl rfl rfl (w_i64 (by omega)) ?_
  refine l_assign rfl rfl rfl (l_nil (e_then ?_))
  refine c_keep [6] (.cons rfl .nil) ?_
  refine c_ret ?_
  refine e_done1 Tryz.results14 rfl ?_
  refine ⟨_, rfl, ?_⟩
  exact ⟨congrArg (Value.int .i64) (by unfold witF; rw [if_pos hc0]), rfl⟩
 ·skip
  refine c_skip (e_then ?_)
  refine c_keep [0, 1] (.cons rfl (.cons rfl .nil)) ?_
  refine c_seq (c_region (l_move rfl rfl rfl (l_move rfl rfl rfl ?_)))
  refine l_add rfl rfl rfl rfl (w_i64 (by omega)) ?_
  refine l_assign rfl rfl rfl (l_nil (e_then ?_))
  refine c_keep [6] (.cons rfl .nil) ?_
  refine c_ret ?_
  refine e_done1 Tryz.results14 rfl ?_
  refine ⟨_, rfl, ?_⟩
  exact ⟨congrArg (Value.int .i64) (by unfold witF; rw [if_neg hc0]), rfl⟩
end Go.Proofs.YtggdkplphfofkaaGreat.W
