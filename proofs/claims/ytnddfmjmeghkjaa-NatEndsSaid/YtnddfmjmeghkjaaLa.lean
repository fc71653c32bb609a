/- walks of mintagekeep.Words and of the laws' small parts -/
import Derived.Test.YtnddfmjmeghkjaaVx
import Derived.Test.YtnddfmjmeghkjaaVr
import Derived.Test.YtnddfmjmeghkjaaFe
import Derived.Test.YtnddfmjmeghkjaaFf
import Derived.Test.YtnddfmjmeghkjaaRc
set_option linter.unusedVariables false
set_option linter.unusedSimpArgs false
set_option maxRecDepth 10000
namespace Go.Proofs.Ytnddfmjmeghkjaa.W
open Go.Vc Go.RowKit

theorem cnU {l : List Int} {n : Int} (h : Ma.Cn 18446744073709551616 l n) : U l := U.of_dg h.dg

theorem wordsK (a b : Value) (la lb : List Int) (hUa : U la) (hUb : U lb) (hLa : la.length ≤ 1099511627776) (hLb : lb.length ≤ 1099511627776) (w : World) (ha : IV w a (ints .u64 la)) (hb : IV w b (ints .u64 lb)) :
    CallsV P 13 [a, b] w fun r w' => r = .bool (decide (la = lb)) ∧ Grow w w' [] := by
  refine enterW Try.func13 rfl Try.ntmps13 rfl ?_
  have hw0 := St.start w
  refine c_seq ?_
  refine c_region ?_
  refine l_assign rfl rfl rfl ?_
  refine l_nil ?_
  refine e_then ?_
  refine c_keep [0, 1] (.cons rfl (.cons rfl .nil)) ?_
  refine c_seq ?_
  refine c_seq ?_
  refine c_region ?_
  refine l_move rfl rfl rfl ?_
  refine v_leni rfl rfl Try.underlying25 rfl (by first | exact hw0.iarg ha | exact hw0.iarg hb | assumption) ?_
  refine l_move rfl rfl rfl ?_
  refine v_leni rfl rfl Try.underlying25 rfl (by first | exact hw0.iarg ha | exact hw0.iarg hb | assumption) ?_
  refine l_neq rfl rfl rfl rfl ?_
  refine l_nil ?_
  refine e_then ?_
  refine c_keep [0, 1, 10] (.cons rfl (.cons rfl (.cons rfl .nil))) ?_
  first | refine c_cond rfl (fun hc0 => ?_) (fun hc0 => ?_) | refine c_condb rfl (fun hc0 => ?_) (fun hc0 => ?_)
  · skip
    refine c_seq ?_
    refine c_region ?_
    refine l_assign rfl rfl rfl ?_
    refine l_nil ?_
    refine e_then ?_
    refine c_keep [4] (.cons rfl .nil) ?_
    refine c_ret ?_
    refine e_then_ret ?_
    refine e_done1 Try.results13 rfl ?_
    refine ⟨_, rfl, ?_⟩
    exact ⟨by rw [decide_eq_false (fun h => by subst h; exact hc0 rfl)], hw0.grows⟩
  · skip
    refine c_skip ?_
    refine e_then ?_
    refine c_keep [0, 1] (.cons rfl (.cons rfl .nil)) ?_
    refine c_seq ?_
    refine c_seq ?_
    refine c_region ?_
    have hlen : la.length = lb.length := by omega
    refine l_assign rfl rfl rfl ?_
    refine l_nil ?_
    refine e_then ?_
    refine c_block ?_
    refine c_loopk (ι := Nat) (fun (k : Nat) => la.length - k) (fun (k : Nat) (w' : World) => St w w.heap.size None' ([]) w' ∧ k ≤ la.length ∧ ∀ j, j < k → la.getD j 0 = lb.getD j 0) (fun (k : Nat) => [(5, .int .i64 (k : Int))]) [0, 1] (0) ?_ (.cons rfl (.cons rfl .nil)) ?_ ?_
    · exact ⟨hw0, by omega, fun j hj => by omega⟩
    · exact (.cons rfl (by first | rfl | (refine congrArg (Value.int _) ?_; omega)) .nil)
    rintro k w1 ⟨hw1, hk, heq⟩
    show RunC P _ _ _ (_ :: _) _
    refine c_seq ?_
    refine c_seq ?_
    refine c_region ?_
    refine l_move rfl rfl rfl ?_
    refine l_move rfl rfl rfl ?_
    refine v_leni rfl rfl Try.underlying25 rfl (by first | exact hw1.iarg ha | exact hw1.iarg hb | assumption) ?_
    refine l_lss rfl rfl rfl rfl ?_
    refine l_nil ?_
    refine e_then ?_
    refine c_keep [0, 1, 5, 14] (.cons rfl (.cons rfl (.cons rfl (.cons rfl .nil)))) ?_
    first | refine c_cond rfl (fun hc1 => ?_) (fun hc1 => ?_) | refine c_condb rfl (fun hc1 => ?_) (fun hc1 => ?_)
    · skip
      refine c_skip ?_
      refine e_then ?_
      refine c_keep [0, 1, 5] (.cons rfl (.cons rfl (.cons rfl .nil))) ?_
      refine c_seq ?_
      refine c_block ?_
      refine c_seq ?_
      refine c_still (by kernel_rfl) (by kernel_rfl) ?_
      have hw2 := hw1.drewn
      try clear hw1
      refine l_move rfl rfl rfl ?_
      refine l_move rfl rfl rfl ?_
      refine v_getr rfl rfl rfl rfl Try.underlying25 tz22 Try.underlying22 rfl rfl (by first | exact hw2.iarg ha | exact hw2.iarg hb | assumption) (by assumption) rfl rfl (by first | omega | (simp; omega)) (fun hb6_2 => ?_)
      refine l_move rfl rfl rfl ?_
      refine l_move rfl rfl rfl ?_
      refine v_getr rfl rfl rfl rfl Try.underlying25 tz22 Try.underlying22 rfl rfl (by first | exact hw2.iarg ha | exact hw2.iarg hb | assumption) (by assumption) rfl rfl (by first | omega | (simp; omega)) (fun hb6_6 => ?_)
      refine l_neq rfl rfl rfl rfl ?_
      refine l_nil ?_
      refine e_then ?_
      refine c_keep [0, 1, 5, 25] (.cons rfl (.cons rfl (.cons rfl (.cons rfl .nil)))) ?_
      first | refine c_cond rfl (fun hc2 => ?_) (fun hc2 => ?_) | refine c_condb rfl (fun hc2 => ?_) (fun hc2 => ?_)
      · skip
        refine c_seq ?_
        refine c_region ?_
        refine l_assign rfl rfl rfl ?_
        refine l_nil ?_
        refine e_then ?_
        refine c_keep [4] (.cons rfl .nil) ?_
        refine c_ret ?_
        refine e_blk_ret ?_
        refine e_then_ret ?_
        refine e_then_ret ?_
        refine e_blk_ret ?_
        refine e_then_ret ?_
        refine e_done1 Try.results13 rfl ?_
        refine ⟨_, rfl, ?_⟩
        exact ⟨by rw [decide_eq_false (fun h => by subst h; exact hc2 rfl)], hw2.grows⟩
      · skip
        refine c_skip ?_
        refine e_blk ?_
        refine e_then ?_
        refine c_keep [0, 1, 5] (.cons rfl (.cons rfl (.cons rfl .nil))) ?_
        refine c_region ?_
        refine l_move rfl rfl rfl ?_
        refine l_add rfl rfl rfl rfl (w_i64 (by omega)) ?_
        refine l_assign rfl rfl rfl ?_
        refine l_nil ?_
        refine e_againk (i := (k)) (k + 1) ?_ ?_ (.cons rfl (.cons rfl .nil)) ?_
        · first | omega | (simp; omega)
        · refine ⟨hw2, by omega, fun j hj => ?_⟩
          rcases Nat.lt_or_ge j k with h | h
          · exact heq j h
          · obtain rfl : j = k := by omega
            omega
        · exact (.cons rfl (by first | rfl | (refine congrArg (Value.int _) ?_; omega)) .nil)
    · skip
      refine c_exit ?_
      refine e_then_exit ?_
      refine e_then_exit ?_
      refine e_blk_exit ?_
      refine e_then ?_
      refine c_keep [] .nil ?_
      refine c_seq ?_
      refine c_region ?_
      refine l_assign rfl rfl rfl ?_
      refine l_nil ?_
      refine e_then ?_
      refine c_ret ?_
      refine e_done1 Try.results13 rfl ?_
      refine ⟨_, rfl, ?_⟩
      have hke : k = la.length := by omega
      have he : la = lb := by
        refine List.ext_getElem hlen fun j h1 h2 => ?_
        have := heq j (by omega)
        simpa [List.getD, h1, h2] using this
      exact ⟨by rw [decide_eq_true he], hw1.grows⟩
end Go.Proofs.Ytnddfmjmeghkjaa.W
