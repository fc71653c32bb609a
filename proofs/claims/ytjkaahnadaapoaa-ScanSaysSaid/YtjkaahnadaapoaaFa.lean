/- walks of digit.Is, digit.Run, nat.trim and their like -/
import Derived.Test.YtjkaahnadaapoaaVx
set_option linter.unusedVariables false
set_option linter.unusedSimpArgs false
set_option maxRecDepth 10000
namespace Go.Proofs.Ytjkaahnadaapoaa.W
open Go.Vc Go.RowKit

/-- is a byte a digit? -/
def isD (b : UInt8) : Prop := 48 ≤ (b.toNat : Int) ∧ (b.toNat : Int) ≤ 57
instance (b : UInt8) : Decidable (isD b) := by unfold isD; infer_instance
/-- how many digits a text begins with -/
def run : List UInt8 → Nat
  | [] => 0
  | b :: l => if isD b then run l + 1 else 0
theorem run_le (l : List UInt8) : run l ≤ l.length := by
  induction l with
  | nil => simp [run]
  | cons b l ih => simp only [run, List.length_cons]; split <;> omega
theorem run_all : ∀ (l : List UInt8) (j : Nat), j < run l → isD (l.getD j 0)
  | [], j, h => by simp [run] at h
  | b :: l, j, h => by
    simp only [run] at h
    split at h
    · rename_i hb
      cases j with
      | zero => simpa using hb
      | succ j => simpa using run_all l j (by omega)
    · omega
theorem run_stop : ∀ (l : List UInt8), run l < l.length → ¬ isD (l.getD (run l) 0)
  | [], h => by simp at h
  | b :: l, h => by
    simp only [run] at h ⊢
    split
    · rename_i hb
      rw [if_pos hb] at h
      simpa using run_stop l (by simpa using h)
    · rename_i hb
      simpa using hb
theorem run_is (l : List UInt8) (n : Nat) (h1 : ∀ j, j < n → isD (l.getD j 0)) (h2 : n ≤ l.length) (h3 : n < l.length → ¬ isD (l.getD n 0)) : run l = n := by
  have a := run_le l
  rcases Nat.lt_trichotomy (run l) n with h | h | h
  · exact absurd (h1 _ h) (run_stop l (by omega))
  · exact h
  · exact absurd (run_all l n h) (h3 (by omega))

theorem is_digit (b : UInt8) (w : World) :
    CallsV P 58 [.int .u8 (b.toNat : Int)] w fun r w' => r = .bool (decide (isD b)) ∧ w = w' := by
  refine enterW Try.func58 rfl Try.ntmps58 rfl ?_
  refine c_seq ?_
  refine c_region ?_
  refine l_assign rfl rfl rfl ?_
  refine l_nil ?_
  refine e_then ?_
  refine c_keep [0] (.cons rfl .nil) ?_
  refine c_seq ?_
  refine c_region ?_
  refine l_move rfl rfl rfl ?_
  refine l_geq rfl rfl rfl rfl ?_
  refine l_move rfl rfl rfl ?_
  apply l_and 2 [] rfl rfl (.cons rfl .nil) rfl rfl (fun _ => rfl) rfl rfl rfl
  · intro hg1_3
    refine l_move rfl rfl rfl ?_
    refine l_leq rfl rfl rfl rfl ?_
    refine l_nil ?_
    exact e_stays rfl (.cons rfl (congrArg Value.bool (decide_eq_true hg1_3).symm) .nil)
  refine l_assign rfl rfl rfl ?_
  refine l_nil ?_
  refine e_then ?_
  refine c_keep [2] (.cons rfl .nil) ?_
  refine c_ret ?_
  refine e_done1 Try.results58 rfl ?_
  refine ⟨_, rfl, ?_⟩
  exact ⟨by unfold isD; rfl, rfl⟩
theorem is_ref04 (b : UInt8) (w : World) :
    CallsV P 61 [.int .u8 (b.toNat : Int)] w fun r w' => r = .bool (decide (isD b)) ∧ w = w' := by
  refine enterW Try.func61 rfl Try.ntmps61 rfl ?_
  refine c_seq ?_
  refine c_region ?_
  refine l_assign rfl rfl rfl ?_
  refine l_nil ?_
  refine e_then ?_
  refine c_keep [0] (.cons rfl .nil) ?_
  refine c_seq ?_
  refine c_region ?_
  refine l_move rfl rfl rfl ?_
  refine l_geq rfl rfl rfl rfl ?_
  refine l_move rfl rfl rfl ?_
  apply l_and 2 [] rfl rfl (.cons rfl .nil) rfl rfl (fun _ => rfl) rfl rfl rfl
  · intro hg1_3
    refine l_move rfl rfl rfl ?_
    refine l_leq rfl rfl rfl rfl ?_
    refine l_nil ?_
    exact e_stays rfl (.cons rfl (congrArg Value.bool (decide_eq_true hg1_3).symm) .nil)
  refine l_assign rfl rfl rfl ?_
  refine l_nil ?_
  refine e_then ?_
  refine c_keep [2] (.cons rfl .nil) ?_
  refine c_ret ?_
  refine e_done1 Try.results61 rfl ?_
  refine ⟨_, rfl, ?_⟩
  exact ⟨by unfold isD; rfl, rfl⟩

theorem run_eqn (l : List UInt8) (a n : Nat) (ha : a ≤ l.length) (h1 : ∀ j, j < n → isD (l.getD (a + j) 0)) (h2 : a + n ≤ l.length) (h3 : a + n < l.length → ¬ isD (l.getD (a + n) 0)) : run (l.drop a) = n := by
  refine run_is _ _ (fun j hj => ?_) (by rw [List.length_drop]; omega) (fun h => ?_)
  · have := h1 j hj
    simpa [List.getD, List.getElem?_drop] using this
  · rw [List.length_drop] at h
    have := h3 (by omega)
    simpa [List.getD, List.getElem?_drop] using this
theorem run_drop_all (l : List UInt8) (a j : Nat) (h : j < run (l.drop a)) : isD (l.getD (a + j) 0) := by
  have := run_all _ _ h
  simpa [List.getD, List.getElem?_drop] using this

theorem run_ref04 (v : Value) (l : List UInt8) (hv0 : l.length ≤ 140737488355328) (a : Nat) (ha : a ≤ l.length) (w : World) (hv : IB w v l) :
    CallsV P 49 [v, .int .i64 (a : Int)] w fun r w' => r = .int .i64 (run (l.drop a) : Int) ∧ w = w' := by
  refine enterW Try.func49 rfl Try.ntmps49 rfl ?_
  refine c_seq ?_
  refine c_region ?_
  refine l_assign rfl rfl rfl ?_
  refine l_nil ?_
  refine e_then ?_
  refine c_keep [0, 1] (.cons rfl (.cons rfl .nil)) ?_
  refine c_seq ?_
  refine c_seq ?_
  refine c_region ?_
  refine l_move rfl rfl rfl ?_
  refine l_lss rfl rfl rfl rfl ?_
  refine l_nil ?_
  refine e_then ?_
  refine c_keep [0, 1, 8] (.cons rfl (.cons rfl (.cons rfl .nil))) ?_
  first | refine c_cond rfl (fun hc0 => ?_) (fun hc0 => ?_) | refine c_condb rfl (fun hc0 => ?_) (fun hc0 => ?_)
  · skip
    exact absurd hc0 (by omega)
  · skip
    refine c_skip ?_
    refine e_then ?_
    refine c_keep [0, 1] (.cons rfl (.cons rfl .nil)) ?_
    refine c_seq ?_
    refine c_region ?_
    refine l_assign rfl rfl rfl ?_
    refine l_nil ?_
    refine e_then ?_
    refine c_seq ?_
    refine c_seq ?_
    refine c_region ?_
    refine l_move rfl rfl rfl ?_
    refine l_assign rfl rfl rfl ?_
    refine l_nil ?_
    refine e_then ?_
    refine c_keep [0, 5, 6] (.cons rfl (.cons rfl (.cons rfl .nil))) ?_
    refine c_block ?_
    refine c_loopk (ι := Nat) (fun (k : Nat) => l.length - k) (fun (k : Nat) (w' : World) => w = w' ∧ a + k ≤ l.length ∧ ∀ j, j < k → isD (l.getD (a + j) 0)) (fun (k : Nat) => [(5, .int .i64 (k : Int)), (6, .int .i64 ((a + k : Nat) : Int))]) [0] (0) ?_ (.cons rfl .nil) ?_ ?_
    · exact ⟨rfl, by omega, fun j hj => by omega⟩
    · exact (.cons rfl (by first | rfl | (refine congrArg (Value.int _) ?_; omega)) (.cons rfl (by first | rfl | (refine congrArg (Value.int _) ?_; omega)) .nil))
    rintro k _ ⟨rfl, hk, hd⟩
    show RunC P _ _ _ (_ :: _) _
    refine c_seq ?_
    refine c_seq ?_
    refine c_region ?_
    refine l_move rfl rfl rfl ?_
    refine l_move rfl rfl rfl ?_
    refine v_lenb rfl rfl Try.underlying22 rfl (by first | exact hv | assumption) ?_
    refine l_lss rfl rfl rfl rfl ?_
    refine l_move rfl rfl rfl ?_
    apply l_and 5 [0, 5, 6] rfl rfl (.cons rfl (.cons rfl (.cons rfl (.cons rfl .nil)))) rfl rfl (fun _ => rfl) rfl rfl rfl
    · intro hg5_5
      refine l_move rfl rfl rfl ?_
      refine l_move rfl rfl rfl ?_
      refine v_getbr rfl rfl rfl rfl Try.underlying22 tz5 Try.underlying5 rfl rfl (by first | exact hv | assumption) rfl rfl (by omega) (fun hb5_7 => ?_)
      refine l_callp rfl rfl Try.func61 rfl rfl (.cons rfl .nil) (is_ref04 _ _) ?_
      refine l_nil ?_
      exact e_stays rfl (.cons rfl (congrArg Value.bool (decide_eq_true hg5_5).symm) (.cons rfl rfl (.cons rfl rfl (.cons rfl rfl .nil))))
    refine l_nil ?_
    refine e_then ?_
    refine c_keep [0, 5, 6, 20] (.cons rfl (.cons rfl (.cons rfl (.cons rfl .nil)))) ?_
    first | refine c_cond rfl (fun hc1 => ?_) (fun hc1 => ?_) | refine c_condb rfl (fun hc1 => ?_) (fun hc1 => ?_)
    · skip
      refine c_skip ?_
      refine e_then ?_
      refine c_keep [0, 5, 6] (.cons rfl (.cons rfl (.cons rfl .nil))) ?_
      refine c_seq ?_
      refine c_block ?_
      refine c_region ?_
      refine l_move rfl rfl rfl ?_
      refine l_add rfl rfl rfl rfl (w_i64 (by omega)) ?_
      refine l_assign rfl rfl rfl ?_
      refine l_nil ?_
      refine e_blk ?_
      refine e_then ?_
      refine c_keep [0, 5, 6] (.cons rfl (.cons rfl (.cons rfl .nil))) ?_
      refine c_region ?_
      refine l_move rfl rfl rfl ?_
      refine l_add rfl rfl rfl rfl (w_i64 (by omega)) ?_
      refine l_assign rfl rfl rfl ?_
      refine l_nil ?_
      refine e_againk (i := (k)) (k + 1) ?_ ?_ (.cons rfl .nil) ?_
      · first | omega | (simp; omega)
      · refine ⟨rfl, by omega, fun j hj => ?_⟩
        rcases Nat.lt_or_ge j k with h | h
        · exact hd j h
        · obtain rfl : j = k := by omega
          exact hc1.2
      · exact (.cons rfl (by first | rfl | (refine congrArg (Value.int _) ?_; omega)) (.cons rfl (by first | rfl | (refine congrArg (Value.int _) ?_; omega)) .nil))
    · skip
      refine c_exit ?_
      refine e_then_exit ?_
      refine e_then_exit ?_
      refine e_blk_exit ?_
      refine e_then ?_
      refine c_keep [5] (.cons rfl .nil) ?_
      refine c_seq ?_
      refine c_region ?_
      refine l_move rfl rfl rfl ?_
      refine l_assign rfl rfl rfl ?_
      refine l_nil ?_
      refine e_then ?_
      refine c_keep [4] (.cons rfl .nil) ?_
      refine c_ret ?_
      refine e_done1 Try.results49 rfl ?_
      refine ⟨_, rfl, ?_⟩
      refine ⟨congrArg (Value.int .i64) (congrArg Nat.cast ?_), rfl⟩
      exact (run_eqn l a k ha hd hk fun h hh => hc1 ⟨by omega, hh⟩).symm
end Go.Proofs.Ytjkaahnadaapoaa.W
