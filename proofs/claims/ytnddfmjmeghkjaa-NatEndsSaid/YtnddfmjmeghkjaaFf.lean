/- walk of nat.Parse -/
import Derived.Test.YtnddfmjmeghkjaaFe
import Derived.Test.YtnddfmjmeghkjaaRc
set_option linter.unusedVariables false
set_option linter.unusedSimpArgs false
set_option maxRecDepth 10000
namespace Go.Proofs.Ytnddfmjmeghkjaa.W
open Go.Vc Go.RowKit

theorem pv_snoc (a : List UInt8) (x : UInt8) : pv (a ++ [x]) = 10 * pv a + ((x.toNat : Int) - 48) := by rw [pv, List.foldl_append]; rfl
theorem pv_append (a : List UInt8) : ∀ (n : Nat) (b : List UInt8), b.length = n → pv (a ++ b) = pv a * 10 ^ n + pv b
  | 0, b, h => by
    obtain rfl := List.eq_nil_of_length_eq_zero h
    simp [pv]
  | n + 1, b, h => by
    have hne : b ≠ [] := by intro e; subst e; simp at h
    have e := List.dropLast_concat_getLast hne
    have ih := pv_append a n b.dropLast (by simp [h])
    rw [← e, ← List.append_assoc, pv_snoc, pv_snoc, ih, Int.pow_succ, ← Int.mul_assoc]
    omega
theorem pv_bounds : ∀ (n : Nat) (b : List UInt8), b.length = n → (∀ x ∈ b, isD x) → 0 ≤ pv b ∧ pv b < 10 ^ n
  | 0, b, h, _ => by
    obtain rfl := List.eq_nil_of_length_eq_zero h
    simp [pv]
  | n + 1, b, h, hd => by
    have hne : b ≠ [] := by intro e; subst e; simp at h
    have e := List.dropLast_concat_getLast hne
    have ih := pv_bounds n b.dropLast (by simp [h]) (fun x hx => hd x ((List.dropLast_sublist b).subset hx))
    have hl := (hd _ (List.getLast_mem hne)).le
    rw [← e, pv_snoc, Int.pow_succ]
    omega
theorem isD_mem {t : List UInt8} (h : ∀ j, j < t.length → isD (t.getD j 0)) : ∀ x ∈ t, isD x := fun x hx => by
  obtain ⟨j, hj, rfl⟩ := List.getElem_of_mem hx
  have := h j hj
  simpa [List.getD, hj] using this
theorem pv_lead {t : List UInt8} (h : ∀ x ∈ t, isD x) (hn : 0 < t.length) (h0 : ((t.getD 0 0).toNat : Int) ≠ 48) : 10 ^ (t.length - 1) ≤ pv t := by
  match t, hn with
  | x :: l, _ =>
    have e := pv_append [x] l.length l rfl
    have hx := (h x (.head _)).le
    have hl := (pv_bounds l.length l rfl (fun y hy => h y (.tail _ hy))).1
    have hp := Ma.pow_pos (show (0 : Int) < 10 by omega) l.length
    have h1 : pv [x] = (x.toNat : Int) - 48 := by simp [pv]
    have h0' : (x.toNat : Int) ≠ 48 := h0
    have h2 : 1 * (10 : Int) ^ l.length ≤ pv [x] * 10 ^ l.length := Int.mul_le_mul_of_nonneg_right (by omega) (Int.le_of_lt hp)
    show 10 ^ l.length ≤ pv ([x] ++ l)
    omega
set_option exponentiation.threshold 10000 in
theorem big10 : (2 : Int) ^ 8192 ≤ 10 ^ 2467 := by
  have : (2 : Nat) ^ 8192 ≤ 10 ^ 2467 := by decide +kernel
  exact_mod_cast this
theorem pv_split (t : List UInt8) (z : Nat) (hz : z ≤ t.length) (n : Nat) (hn : z + n ≤ t.length) : pv (t.take (z + n)) = pv (t.take z) * 10 ^ n + pv ((t.drop z).take n) := by
  rw [List.take_add]
  exact pv_append _ n _ (by rw [List.length_take, List.length_drop]; omega)
theorem getD_drop {t : List UInt8} (z k : Nat) : (t.drop z).getD k 0 = t.getD (z + k) 0 := by simp [List.getD, List.getElem?_drop]
theorem ten19 : (10 : Int) ^ 19 = 10000000000000000000 := by decide

theorem parseN (t : List UInt8) (hL : t.length ≤ 140737488355328) (w : World) :
    CallsV P 21 [str t] w fun r w' => NatR w w' r (parsed t).1 (parsed t).2 := by
  refine enterW Try.func21 rfl Try.ntmps21 rfl ?_
  have hw0 := St.start w
  refine c_seq ?_
  refine c_region ?_
  refine l_assign rfl rfl rfl ?_
  refine l_assign rfl rfl rfl ?_
  refine l_nil ?_
  refine e_then ?_
  refine c_keep [0] (.cons rfl .nil) ?_
  refine c_seq ?_
  refine c_seq ?_
  refine c_region ?_
  refine l_move rfl rfl rfl ?_
  refine l_lenstr rfl rfl Try.underlying9 rfl ?_
  refine l_move rfl rfl rfl ?_
  refine l_nil ?_
  refine e_then ?_
  refine c_keep [0, 14, 15] (.cons rfl (.cons rfl (.cons rfl .nil))) ?_
  refine c_block ?_
  refine c_loopk (ι := Nat) (fun (k : Nat) => t.length - k) (fun (k : Nat) (w' : World) => St w w.heap.size None' ([]) w' ∧ k ≤ t.length ∧ ∀ j, j < k → isD (t.getD j 0)) (fun (k : Nat) => [(15, .int .i64 (k : Int))]) [0, 14] (0) ?_ (.cons rfl (.cons rfl .nil)) ?_ ?_
  · exact ⟨hw0, by omega, fun j hj => by omega⟩
  · exact (.cons rfl (by first | rfl | (refine congrArg (Value.int _) ?_; omega)) .nil)
  rintro k w1 ⟨hw1, hk, hd⟩
  show RunC P _ _ _ (_ :: _) _
  refine c_seq ?_
  refine c_region ?_
  refine l_lss rfl rfl rfl rfl ?_
  refine l_nil ?_
  refine e_then ?_
  refine c_seq ?_
  first | refine c_cond rfl (fun hc0 => ?_) (fun hc0 => ?_) | refine c_condb rfl (fun hc0 => ?_) (fun hc0 => ?_)
  · skip
    refine c_skip ?_
    refine e_then ?_
    refine c_keep [0, 14, 15] (.cons rfl (.cons rfl (.cons rfl .nil))) ?_
    refine c_seq ?_
    refine c_block ?_
    refine c_seq ?_
    refine c_region ?_
    refine l_move rfl rfl rfl ?_
    refine l_assign rfl rfl rfl ?_
    refine l_nil ?_
    refine e_then ?_
    refine c_keep [0, 4, 14, 15] (.cons rfl (.cons rfl (.cons rfl (.cons rfl .nil)))) ?_
    refine c_seq ?_
    refine c_region ?_
    refine l_move rfl rfl rfl ?_
    refine l_move rfl rfl rfl ?_
    refine v_gets rfl rfl Try.underlying9 rfl rfl rfl (by first | omega | (simp; omega) | (simp; done)) (fun hb4_2 => ?_)
    refine l_lss rfl rfl rfl rfl ?_
    refine l_move rfl rfl rfl ?_
    apply l_or 4 [0, 14, 15] rfl rfl (.cons rfl (.cons rfl (.cons rfl (.cons rfl .nil)))) rfl rfl (fun _ => rfl) rfl rfl rfl
    · intro hg4_5
      refine l_move rfl rfl rfl ?_
      refine l_move rfl rfl rfl ?_
      refine v_gets rfl rfl Try.underlying9 rfl rfl rfl (by first | omega | (simp; omega) | (simp; done)) (fun hb4_7 => ?_)
      refine l_gtr rfl rfl rfl rfl ?_
      refine l_nil ?_
      exact e_stays rfl (.cons rfl (congrArg Value.bool (decide_eq_false hg4_5).symm) (.cons rfl rfl (.cons rfl rfl (.cons rfl rfl .nil))))
    refine l_nil ?_
    refine e_then ?_
    refine c_keep [0, 14, 15, 27] (.cons rfl (.cons rfl (.cons rfl (.cons rfl .nil)))) ?_
    first | refine c_cond rfl (fun hc1 => ?_) (fun hc1 => ?_) | refine c_condb rfl (fun hc1 => ?_) (fun hc1 => ?_)
    · skip
      refine c_seq ?_
      refine c_region ?_
      refine l_assign rfl rfl rfl ?_
      refine l_assign rfl rfl rfl ?_
      refine l_nil ?_
      refine e_then ?_
      refine c_keep [2, 3] (.cons rfl (.cons rfl .nil)) ?_
      refine c_ret ?_
      refine e_blk_ret ?_
      refine e_then_ret ?_
      refine e_then_ret ?_
      refine e_blk_ret ?_
      refine e_then_ret ?_
      refine e_done2 Try.results21 rfl rfl ?_
      refine ⟨_, rfl, ?_⟩
      rw [parsed_bad (.inr ⟨k, by omega, fun h => by have := h.le; omega⟩)]
      exact ⟨_, _, rfl, Ma.Cn.nil, (hw1.nil 22).grows⟩
    · skip
      skip
      refine c_skip ?_
      refine e_blk ?_
      refine e_then ?_
      refine c_keep [0, 14, 15] (.cons rfl (.cons rfl (.cons rfl .nil))) ?_
      refine c_region ?_
      refine l_add rfl rfl rfl rfl (w_i64 (by omega)) ?_
      refine l_move rfl rfl rfl ?_
      refine l_nil ?_
      refine e_againk (i := (k)) (k + 1) ?_ ?_ (.cons rfl (.cons rfl .nil)) ?_
      · first | omega | (simp; omega)
      · refine ⟨hw1, by omega, fun j hj => ?_⟩
        rcases Nat.lt_or_ge j k with h | h
        · exact hd j h
        · obtain rfl : j = k := by omega
          exact ⟨by omega, by omega⟩
      · exact (.cons rfl (by first | rfl | (refine congrArg (Value.int _) ?_; omega)) .nil)
  · skip
    refine c_exit ?_
    refine e_then_exit ?_
    refine e_then_exit ?_
    refine e_blk_exit ?_
    refine e_then ?_
    refine c_keep [0] (.cons rfl .nil) ?_
    refine c_seq ?_
    refine c_seq ?_
    refine c_region ?_
    have hall : ∀ j, j < t.length → isD (t.getD j 0) := fun j hj => hd j (by omega)
    refine l_move rfl rfl rfl ?_
    refine l_eqls rfl rfl rfl rfl ?_
    refine l_nil ?_
    refine e_then ?_
    refine c_keep [0, 30] (.cons rfl (.cons rfl .nil)) ?_
    first | refine c_cond rfl (fun hc2 => ?_) (fun hc2 => ?_) | refine c_condb rfl (fun hc2 => ?_) (fun hc2 => ?_)
    · skip
      refine c_seq ?_
      refine c_region ?_
      refine l_assign rfl rfl rfl ?_
      refine l_assign rfl rfl rfl ?_
      refine l_nil ?_
      refine e_then ?_
      refine c_keep [2, 3] (.cons rfl (.cons rfl .nil)) ?_
      refine c_ret ?_
      refine e_then_ret ?_
      refine e_done2 Try.results21 rfl rfl ?_
      refine ⟨_, rfl, ?_⟩
      rw [parsed_bad (.inl hc2)]
      exact ⟨_, _, rfl, Ma.Cn.nil, (hw1.nil 22).grows⟩
    · skip
      refine c_skip ?_
      refine e_then ?_
      refine c_keep [0] (.cons rfl .nil) ?_
      refine c_seq ?_
      refine c_block ?_
      refine c_loopk (ι := Nat) (fun (z : Nat) => t.length - z) (fun (z : Nat) (w' : World) => St w w.heap.size None' ([]) w' ∧ z ≤ t.length ∧ pv (t.take z) = 0) (fun (z : Nat) => [(0, str (t.drop z))]) [] (0) ?_ .nil ?_ ?_
      · exact ⟨hw1, by omega, by simp [pv]⟩
      · exact (.cons rfl (by rfl) .nil)
      rintro z w2 ⟨hw2, hz, hpz⟩
      show RunC P _ _ _ (_ :: _) _
      have hdl : (t.drop z).length = t.length - z := List.length_drop
      refine c_seq ?_
      refine c_seq ?_
      refine c_region ?_
      refine l_move rfl rfl rfl ?_
      refine l_lenstr rfl rfl Try.underlying9 rfl ?_
      refine l_gtr rfl rfl rfl rfl ?_
      refine l_move rfl rfl rfl ?_
      apply l_and 3 [0] rfl rfl (.cons rfl (.cons rfl .nil)) rfl rfl (fun _ => rfl) rfl rfl rfl
      · intro hg9_4
        refine l_move rfl rfl rfl ?_
        refine v_gets (j := 0) rfl rfl Try.underlying9 rfl rfl rfl (by first | omega | (simp; omega) | (simp; done)) (fun hb9_5 => ?_)
        refine l_eql rfl rfl rfl rfl ?_
        refine l_nil ?_
        exact e_stays rfl (.cons rfl (congrArg Value.bool (decide_eq_true hg9_4).symm) (.cons rfl rfl .nil))
      refine l_nil ?_
      refine e_then ?_
      refine c_keep [0, 38] (.cons rfl (.cons rfl .nil)) ?_
      first | refine c_cond rfl (fun hc3 => ?_) (fun hc3 => ?_) | refine c_condb rfl (fun hc3 => ?_) (fun hc3 => ?_)
      · skip
        refine c_skip ?_
        refine e_then ?_
        refine c_keep [0] (.cons rfl .nil) ?_
        refine c_block ?_
        refine c_region ?_
        refine l_move rfl rfl rfl ?_
        refine l_slices (l := 1) (h := (t.drop z).length) rfl rfl Try.underlying9 rfl rfl rfl (by first | rfl | (simp; done) | (simp; omega)) (by first | rfl | (simp; done) | (simp; omega)) (by omega) (by first | omega | (simp; omega) | (simp; done)) ?_
        refine l_assign rfl rfl rfl ?_
        refine l_nil ?_
        refine e_blk ?_
        refine e_againk (i := (z)) (z + 1) ?_ ?_ .nil ?_
        · first | omega | (simp; omega)
        · have h48 := hc3.2
          rw [getD_drop] at h48
          simp only [Nat.add_zero] at h48
          refine ⟨hw2, by omega, ?_⟩
          rw [pv_succ t (by omega), hpz]
          omega
        · exact (.cons rfl (by exact congrArg str (by rw [List.take_length, List.drop_drop])) .nil)
      · skip
        refine c_exit ?_
        refine e_then_exit ?_
        refine e_then_exit ?_
        refine e_blk_exit ?_
        refine e_then ?_
        refine c_keep [0] (.cons rfl .nil) ?_
        refine c_seq ?_
        refine c_seq ?_
        refine c_region ?_
        refine l_move rfl rfl rfl ?_
        refine l_lenstr rfl rfl Try.underlying9 rfl ?_
        refine l_gtr rfl rfl rfl rfl ?_
        refine l_nil ?_
        refine e_then ?_
        refine c_keep [0, 43] (.cons rfl (.cons rfl .nil)) ?_
        first | refine c_cond rfl (fun hc4 => ?_) (fun hc4 => ?_) | refine c_condb rfl (fun hc4 => ?_) (fun hc4 => ?_)
        · skip
          refine c_seq ?_
          refine c_region ?_
          refine l_assign rfl rfl rfl ?_
          refine l_assign rfl rfl rfl ?_
          refine l_nil ?_
          refine e_then ?_
          refine c_keep [2, 3] (.cons rfl (.cons rfl .nil)) ?_
          refine c_ret ?_
          refine e_then_ret ?_
          refine e_done2 Try.results21 rfl rfl ?_
          refine ⟨_, rfl, ?_⟩
          have hl := pv_lead (t := t.drop z) (fun x hx => isD_mem hall x (List.mem_of_mem_drop hx)) (by omega) (fun h => hc3 ⟨by omega, h⟩)
          have hb : (10 : Int) ^ 2467 ≤ 10 ^ ((t.drop z).length - 1) := Ma.pow_mono (by omega) (by omega)
          have hsp := pv_append (t.take z) (t.drop z).length (t.drop z) rfl
          rw [List.take_append_drop, hpz, Int.zero_mul, Int.zero_add] at hsp
          have hbig := big10
          have hlong : 8192 < Ma.blen (pv t) := by
            have h0 : 0 ≤ pv t := (pv_bounds _ t rfl (isD_mem hall)).1
            rcases Int.lt_or_le 8192 (Ma.blen (pv t)) with h | h
            · exact h
            · have := (Ma.blen_le_iff h0 8192).1 h
              omega
          rw [parsed_long hc2 hall hlong]
          exact ⟨_, _, rfl, Ma.Cn.nil, (hw2.nil 22).grows⟩
        · skip
          refine c_skip ?_
          refine e_then ?_
          refine c_keep [0] (.cons rfl .nil) ?_
          refine c_seq ?_
          refine c_region ?_
          refine l_assign rfl rfl rfl ?_
          refine l_nil ?_
          refine e_then ?_
          refine c_seq ?_
          refine c_block ?_
          refine c_loopk (ι := Nat × List Int × Value) (fun (z0 : Nat × List Int × Value) => match z0 with | ⟨y, o, vo⟩ => t.length - y) (fun (z0 : Nat × List Int × Value) (w' : World) => match z0 with | ⟨y, o, vo⟩ => St w w.heap.size None' ([As.ri 22 .u64 vo o]) w' ∧ z ≤ y ∧ y ≤ t.length ∧ U o ∧ o.length + z ≤ y ∧ nv o = pv (t.take y) ∧ (nv o = 0 ∨ (t.length - y) % 19 = 0)) (fun (z0 : Nat × List Int × Value) => match z0 with | ⟨y, o, vo⟩ => [(0, str (t.drop y)), (5, vo)]) [] (z, [], .slice none 0 0) ?_ .nil ?_ ?_
          · exact ⟨hw2.nil 22, by omega, by omega, (fun x h => by cases h), by simp, by rw [hpz]; rfl, .inl rfl⟩
          · exact (.cons rfl (by first | rfl | (refine congrArg (Value.int _) ?_; omega)) (.cons rfl (by first | rfl | (refine congrArg (Value.int _) ?_; omega)) .nil))
          rintro ⟨y, o, vo⟩ w3 ⟨hw3, hzy, hy, hUo, hol, hval, h19⟩
          show RunC P _ _ _ (_ :: _) _
          have hdy : (t.drop y).length = t.length - y := List.length_drop
          refine c_seq ?_
          refine c_seq ?_
          refine c_region ?_
          refine l_move rfl rfl rfl ?_
          refine l_lenstr rfl rfl Try.underlying9 rfl ?_
          refine l_gtr rfl rfl rfl rfl ?_
          refine l_nil ?_
          refine e_then ?_
          refine c_keep [0, 5, 46] (.cons rfl (.cons rfl (.cons rfl .nil))) ?_
          first | refine c_cond rfl (fun hc5 => ?_) (fun hc5 => ?_) | refine c_condb rfl (fun hc5 => ?_) (fun hc5 => ?_)
          · skip
            refine c_skip ?_
            refine e_then ?_
            refine c_keep [0, 5] (.cons rfl (.cons rfl .nil)) ?_
            refine c_block ?_
            refine c_seq ?_
            refine c_region ?_
            refine l_move rfl rfl rfl ?_
            refine l_lenstr rfl rfl Try.underlying9 rfl ?_
            refine l_sub rfl rfl rfl rfl (w_i64 (by omega)) ?_
            refine l_rem rfl rfl rfl rfl (by omega) (r_pos (by omega)) ?_
            refine l_add rfl rfl rfl rfl (w_i64 (by omega)) ?_
            refine l_assign rfl rfl rfl ?_
            refine l_nil ?_
            refine e_then ?_
            refine c_keep [0, 5, 6] (.cons rfl (.cons rfl (.cons rfl .nil))) ?_
            refine c_seq ?_
            refine c_region ?_
            refine l_assign rfl rfl rfl ?_
            refine l_nil ?_
            refine e_then ?_
            refine c_seq ?_
            refine c_seq ?_
            refine c_region ?_
            refine l_move rfl rfl rfl ?_
            refine l_move rfl rfl rfl ?_
            refine l_nil ?_
            refine e_then ?_
            refine c_block ?_
            refine c_loopk (ι := Nat × Int) (fun (z0 : Nat × Int) => match z0 with | ⟨k, ad⟩ => (t.length - y - 1) % 19 + 1 - k) (fun (z0 : Nat × Int) (w' : World) => match z0 with | ⟨k, ad⟩ => St w w.heap.size None' ([As.ri 22 .u64 vo o]) w' ∧ k ≤ (t.length - y - 1) % 19 + 1 ∧ ad = pv ((t.drop y).take k) ∧ 0 ≤ ad ∧ ad < 10 ^ k) (fun (z0 : Nat × Int) => match z0 with | ⟨k, ad⟩ => [(7, .int .u64 ad), (53, .int .i64 (k : Int))]) [0, 5, 6, 52] (0, 0) ?_ (.cons rfl (.cons rfl (.cons rfl (.cons rfl .nil)))) ?_ ?_
            · exact ⟨hw3, by omega, by simp [pv], by omega, by decide⟩
            · exact (.cons rfl (by first | rfl | (refine congrArg (Value.int _) ?_; omega)) (.cons rfl (by first | rfl | (refine congrArg (Value.int _) ?_; omega)) .nil))
            rintro ⟨k, ad⟩ w4 ⟨hw4, hkn, had, had0, had1⟩
            show RunC P _ _ _ (_ :: _) _
            have hp1 : 10 * ad + 9 < 10 ^ (k + 1) := by rw [Int.pow_succ]; omega
            have hp2 := Ma.pow_mono (show (1 : Int) ≤ 10 by omega) (show k + 1 ≤ 20 by omega)
            have hp3 : k < (t.length - y - 1) % 19 + 1 → 10 * ad + 9 < 10000000000000000000 := fun h => by
              have := Ma.pow_mono (show (1 : Int) ≤ 10 by omega) (show k + 1 ≤ 19 by omega)
              rw [ten19] at this
              omega
            refine c_seq ?_
            refine c_region ?_
            refine l_lss rfl rfl rfl rfl ?_
            refine l_nil ?_
            refine e_then ?_
            refine c_seq ?_
            first | refine c_cond rfl (fun hc6 => ?_) (fun hc6 => ?_) | refine c_condb rfl (fun hc6 => ?_) (fun hc6 => ?_)
            · skip
              refine c_skip ?_
              refine e_then ?_
              refine c_keep [0, 5, 6, 7, 52, 53] (.cons rfl (.cons rfl (.cons rfl (.cons rfl (.cons rfl (.cons rfl .nil)))))) ?_
              refine c_seq ?_
              refine c_block ?_
              refine c_seq ?_
              refine c_region ?_
              refine l_move rfl rfl rfl ?_
              refine l_assign rfl rfl rfl ?_
              refine l_nil ?_
              refine e_then ?_
              refine c_keep [0, 5, 6, 7, 8, 52, 53] (.cons rfl (.cons rfl (.cons rfl (.cons rfl (.cons rfl (.cons rfl (.cons rfl .nil))))))) ?_
              refine c_region ?_
              have hdk := (hall (y + k) (by omega)).le
              rw [← getD_drop] at hdk
              refine l_move rfl rfl rfl ?_
              refine l_mul rfl rfl rfl rfl (w_u64 (by omega)) ?_
              refine l_move rfl rfl rfl ?_
              refine l_move rfl rfl rfl ?_
              refine v_gets rfl rfl Try.underlying9 rfl rfl rfl (by first | omega | (simp; omega) | (simp; done)) (fun hb20_4 => ?_)
              refine l_sub rfl rfl rfl rfl (w_u8 (by omega)) ?_
              refine l_conv rfl rfl Try.underlying5 Try.underlying22 rfl (w_u64 (by omega)) ?_
              refine l_add rfl rfl rfl rfl (w_u64 (by omega)) ?_
              refine l_assign rfl rfl rfl ?_
              refine l_nil ?_
              refine e_blk ?_
              refine e_then ?_
              refine c_keep [0, 5, 6, 7, 52, 53] (.cons rfl (.cons rfl (.cons rfl (.cons rfl (.cons rfl (.cons rfl .nil)))))) ?_
              refine c_region ?_
              refine l_add rfl rfl rfl rfl (w_i64 (by omega)) ?_
              refine l_move rfl rfl rfl ?_
              refine l_nil ?_
              refine e_againk (i := (k, ad)) (k + 1, 10 * ad + ((((t.drop y).getD k 0).toNat : Int) - 48)) ?_ ?_ (.cons rfl (.cons rfl (.cons rfl (.cons rfl .nil)))) ?_
              · first | omega | (simp; omega)
              · refine ⟨hw4, by omega, ?_, by omega, by omega⟩
                rw [pv_succ (t.drop y) (by omega), ← had]
                omega
              · exact (.cons rfl (by first | rfl | (refine congrArg (Value.int _) ?_; omega)) (.cons rfl (by first | rfl | (refine congrArg (Value.int _) ?_; omega)) .nil))
            · skip
              refine c_exit ?_
              refine e_then_exit ?_
              refine e_then_exit ?_
              refine e_blk_exit ?_
              refine e_then ?_
              refine c_keep [0, 5, 6, 7] (.cons rfl (.cons rfl (.cons rfl (.cons rfl .nil)))) ?_
              refine c_seq ?_
              refine c_seq ?_
              refine c_region ?_
              have hkn2 : k = (t.length - y - 1) % 19 + 1 := by omega
              have hadb : ad ≤ 18446744073709551615 := by
                have := Ma.pow_mono (show (1 : Int) ≤ 10 by omega) (show k ≤ 19 by omega)
                rw [ten19] at this
                omega
              refine l_move rfl rfl rfl ?_
              refine v_leni rfl rfl Try.underlying25 rfl (by first | exact hw4.io mem0 | assumption) ?_
              refine l_move rfl rfl rfl ?_
              refine l_nil ?_
              refine e_then ?_
              refine c_keep [0, 5, 6, 7, 66, 67] (.cons rfl (.cons rfl (.cons rfl (.cons rfl (.cons rfl (.cons rfl .nil)))))) ?_
              refine c_block ?_
              refine c_loopk (ι := Nat × List Int × Int) (fun (z0 : Nat × List Int × Int) => match z0 with | ⟨i, o', c⟩ => o.length - i) (fun (z0 : Nat × List Int × Int) (w' : World) => match z0 with | ⟨i, o', c⟩ => St w w.heap.size None' ([As.ri 22 .u64 vo o']) w' ∧ i ≤ o.length ∧ o'.length = o.length ∧ U o' ∧ 0 ≤ c ∧ c ≤ 18446744073709551615 ∧ (∀ k, i ≤ k → o'.getD k 0 = o.getD k 0) ∧ nv (o'.take i) + 18446744073709551616 ^ i * c = 10000000000000000000 * nv (o.take i) + ad) (fun (z0 : Nat × List Int × Int) => match z0 with | ⟨i, o', c⟩ => [(7, .int .u64 c), (67, .int .i64 (i : Int))]) [0, 5, 6, 66] (0, o, ad) ?_ (.cons rfl (.cons rfl (.cons rfl (.cons rfl .nil)))) ?_ ?_
              · exact ⟨hw4, by omega, rfl, hUo, had0, by omega, fun _ _ => rfl, by simp [Ma.vb]⟩
              · exact (.cons rfl (by first | rfl | (refine congrArg (Value.int _) ?_; omega)) (.cons rfl (by first | rfl | (refine congrArg (Value.int _) ?_; omega)) .nil))
              rintro ⟨i, o', c⟩ w5 ⟨hw5, hile, hol', hUo', hc1, hc2, hrest, hval'⟩
              show RunC P _ _ _ (_ :: _) _
              refine c_seq ?_
              refine c_region ?_
              refine l_lss rfl rfl rfl rfl ?_
              refine l_nil ?_
              refine e_then ?_
              refine c_seq ?_
              first | refine c_cond rfl (fun hc7 => ?_) (fun hc7 => ?_) | refine c_condb rfl (fun hc7 => ?_) (fun hc7 => ?_)
              · skip
                refine c_skip ?_
                refine e_then ?_
                refine c_keep [0, 5, 6, 7, 66, 67] (.cons rfl (.cons rfl (.cons rfl (.cons rfl (.cons rfl (.cons rfl .nil)))))) ?_
                refine c_seq ?_
                refine c_block ?_
                refine c_seq ?_
                refine c_region ?_
                refine l_move rfl rfl rfl ?_
                refine l_assign rfl rfl rfl ?_
                refine l_nil ?_
                refine e_then ?_
                refine c_keep [0, 5, 6, 7, 9, 66, 67] (.cons rfl (.cons rfl (.cons rfl (.cons rfl (.cons rfl (.cons rfl (.cons rfl .nil))))))) ?_
                refine c_seq ?_
                refine c_region ?_
                refine l_move rfl rfl rfl ?_
                refine l_move rfl rfl rfl ?_
                refine v_getr rfl rfl rfl rfl Try.underlying25 tz22 Try.underlying22 rfl rfl (by first | exact hw5.io mem0 | assumption) (by assumption) rfl rfl (by first | omega | (simp; omega)) (fun hb25_2 => ?_)
                refine l_callp rfl rfl Try.func44 rfl rfl (.cons rfl (.cons rfl .nil)) (mul64 _ _ (by assumption) (by omega) _) ?_
                refine l_move rfl rfl rfl ?_
                refine l_extract rfl rfl rfl rfl ?_
                refine l_extract rfl rfl rfl rfl ?_
                refine l_assign rfl rfl rfl ?_
                refine l_assign rfl rfl rfl ?_
                refine l_nil ?_
                refine e_then ?_
                refine c_keep [0, 5, 6, 7, 9, 10, 11, 66, 67] (.cons rfl (.cons rfl (.cons rfl (.cons rfl (.cons rfl (.cons rfl (.cons rfl (.cons rfl (.cons rfl .nil))))))))) ?_
                refine c_seq ?_
                refine c_region ?_
                have e1 : o'.getD i 0 * 10000000000000000000 / 18446744073709551616 * 18446744073709551616 + o'.getD i 0 * 10000000000000000000 % 18446744073709551616 = o'.getD i 0 * 10000000000000000000 := by omega
                have hlo : 0 ≤ o'.getD i 0 * 10000000000000000000 % 18446744073709551616 ∧ o'.getD i 0 * 10000000000000000000 % 18446744073709551616 ≤ 18446744073709551616 - 1 := by omega
                have hhi : 0 ≤ o'.getD i 0 * 10000000000000000000 / 18446744073709551616 ∧ o'.getD i 0 * 10000000000000000000 / 18446744073709551616 ≤ 18446744073709551616 - 2 := by omega
                generalize o'.getD i 0 * 10000000000000000000 / 18446744073709551616 = hi at *
                generalize o'.getD i 0 * 10000000000000000000 % 18446744073709551616 = lo at *
                refine l_move rfl rfl rfl ?_
                refine l_move rfl rfl rfl ?_
                refine l_extern rfl rfl Try.func45 rfl rfl rfl rfl (.cons rfl (.cons rfl (.cons rfl .nil))) (run_add64 _ _ _ hlo.1 hc1 (by omega) (by omega) _) ?_
                refine l_move rfl rfl rfl ?_
                refine l_extract rfl rfl rfl rfl ?_
                refine l_extract rfl rfl rfl rfl ?_
                refine l_assign rfl rfl rfl ?_
                refine l_assign rfl rfl rfl ?_
                refine l_nil ?_
                refine e_then ?_
                refine c_keep [0, 5, 6, 9, 10, 11, 12, 66, 67] (.cons rfl (.cons rfl (.cons rfl (.cons rfl (.cons rfl (.cons rfl (.cons rfl (.cons rfl (.cons rfl .nil))))))))) ?_
                refine c_region ?_
                have e2 : (lo + c + 0) % 18446744073709551616 + (lo + c + 0) / 18446744073709551616 * 18446744073709551616 = lo + c := by omega
                have hs1 : 0 ≤ (lo + c + 0) % 18446744073709551616 ∧ (lo + c + 0) % 18446744073709551616 ≤ 18446744073709551615 := by omega
                have hcc1 : 0 ≤ (lo + c + 0) / 18446744073709551616 ∧ (lo + c + 0) / 18446744073709551616 ≤ 1 := by omega
                generalize (lo + c + 0) % 18446744073709551616 = s1 at *
                generalize (lo + c + 0) / 18446744073709551616 = c1 at *
                refine l_move rfl rfl rfl ?_
                refine l_move rfl rfl rfl ?_
                refine l_move rfl rfl rfl ?_
                refine l_move rfl rfl rfl ?_
                refine l_move rfl rfl rfl ?_
                refine l_add rfl rfl rfl rfl (w_u64 (by omega)) ?_
                refine v_addrn rfl rfl Try.underlying25 tz22 rfl rfl (by first | exact hw5.io mem0 | assumption) rfl (by first | omega | (simp; done) | (simp; omega)) (fun A27_6 c27_6 hA27_6 => ?_)
                refine v_storei hw5 .head hA27_6 rfl tz22 rfl rfl (by first | omega | (simp; done) | (simp; omega)) (fun w6 hw6 => ?_)
                try clear hw5
                refine l_assign rfl rfl rfl ?_
                refine l_nil ?_
                refine e_blk ?_
                refine e_then ?_
                refine c_keep [0, 5, 6, 7, 66, 67] (.cons rfl (.cons rfl (.cons rfl (.cons rfl (.cons rfl (.cons rfl .nil)))))) ?_
                refine c_region ?_
                refine l_add rfl rfl rfl rfl (w_i64 (by omega)) ?_
                refine l_move rfl rfl rfl ?_
                refine l_nil ?_
                refine e_againk (i := (i, o', c)) (i + 1, o'.set i s1, hi + c1) ?_ ?_ (.cons rfl (.cons rfl (.cons rfl (.cons rfl .nil)))) ?_
                · first | omega | (simp; omega)
                · have h1 := Ma.vb_set 18446744073709551616 o' i s1 (by omega)
                  have h2 := Ma.vb_take_succ 18446744073709551616 o i
                  have hx : o'.getD i 0 = o.getD i 0 := hrest i (Nat.le_refl _)
                  have h3 := mul_place (V := nv (o'.take i)) (p := 18446744073709551616 ^ i) (o := 0) (s2 := s1) (c2 := 0) (by omega) hval' e1 e2 (by omega)
                  refine ⟨hw6, by omega, by simpa using hol', hUo'.set (by omega) _, by omega, by omega, fun k hk => by rw [getD_set_ne _ (by omega)]; exact hrest k (by omega), ?_⟩
                  simp only [Int.sub_zero, Int.add_zero] at h3
                  show Ma.vb _ _ + _ = _ * Ma.vb _ _ + _
                  rw [h1, h2, Int.pow_succ, h3, hx, Int.mul_add]
                  have : (18446744073709551616 : Int) ^ i * (o.getD i 0 * 10000000000000000000) = 10000000000000000000 * (18446744073709551616 ^ i * o.getD i 0) := by rw [Int.mul_comm (o.getD i 0), Int.mul_left_comm]
                  show 10000000000000000000 * nv (o.take i) + ad + _ = 10000000000000000000 * nv (o.take i) + _ + ad
                  omega
                · exact (.cons rfl (by first | rfl | (refine congrArg (Value.int _) ?_; omega)) (.cons rfl (by first | rfl | (refine congrArg (Value.int _) ?_; omega)) .nil))
              · skip
                refine c_exit ?_
                refine e_then_exit ?_
                refine e_then_exit ?_
                refine e_blk_exit ?_
                refine e_then ?_
                refine c_keep [0, 5, 6, 7] (.cons rfl (.cons rfl (.cons rfl (.cons rfl .nil)))) ?_
                refine c_cutk (ι := List Int × Value) (fun (z0 : List Int × Value) (w' : World) => match z0 with | ⟨o2, vo2⟩ => St w w.heap.size None' ([As.ri 22 .u64 vo2 o2]) w' ∧ U o2 ∧ o2.length ≤ o.length + 1 ∧ nv o2 = 10000000000000000000 * nv o + ad) (fun (z0 : List Int × Value) => match z0 with | ⟨o2, vo2⟩ => [(5, vo2)]) [0, 6] (.cons rfl (.cons rfl .nil)) ?_ ?_
                · skip
                  refine c_seq ?_
                  refine c_region ?_
                  refine l_move rfl rfl rfl ?_
                  refine l_gtr rfl rfl rfl rfl ?_
                  refine l_nil ?_
                  refine e_then ?_
                  refine c_keep [0, 5, 6, 7, 93] (.cons rfl (.cons rfl (.cons rfl (.cons rfl (.cons rfl .nil))))) ?_
                  first | refine c_cond rfl (fun hc8 => ?_) (fun hc8 => ?_) | refine c_condb rfl (fun hc8 => ?_) (fun hc8 => ?_)
                  · skip
                    refine c_region ?_
                    refine l_move rfl rfl rfl ?_
                    refine l_move rfl rfl rfl ?_
                    refine v_lit hw5 rfl rfl Try.underlying25 ti22 rfl (.cons rfl (by first | rfl | assumption) .nil) rfl rfl rfl (fun b30_2 w7 hw7 => ?_)
                    try clear hw5
                    refine v_push hw7 rfl rfl Try.underlying25 ti22 rfl rfl rfl rfl (by first | (simp [Value.oneCell']; done) | (intro u hu; rw [List.mem_singleton.1 hu]; assumption)) (by first | (simp; done) | (simp; omega)) (by first | (simp; done) | (simp; omega)) (fun v30_3 w8 hw8 => ?_)
                    try clear hw7
                    refine l_assign rfl rfl rfl ?_
                    refine l_nil ?_
                    refine e_meetk (o' ++ [c], v30_3) ?_ (.cons rfl (.cons rfl .nil)) ?_
                    · obtain rfl : i = o.length := by omega
                      rw [List.take_of_length_le (by omega), List.take_length] at hval'
                      refine ⟨hw8.cast (by rw [ints_snoc]), fun y hy => (List.mem_append.1 hy).elim (hUo' y) (fun h => by rw [List.mem_singleton.1 h]; omega), by simp; omega, ?_⟩
                      show Ma.vb _ _ = _
                      rw [Ma.vb_append, hol']
                      simp only [Ma.vb, Int.mul_zero, Int.add_zero]
                      exact hval'
                    · exact (.cons rfl (by first | rfl | (refine congrArg (Value.int _) ?_; omega)) .nil)
                  · skip
                    refine c_skip ?_
                    refine e_meetk (o', vo) ?_ (.cons rfl (.cons rfl .nil)) ?_
                    · obtain rfl : i = o.length := by omega
                      rw [List.take_of_length_le (by omega), List.take_length, show c = 0 from by omega, Int.mul_zero, Int.add_zero] at hval'
                      exact ⟨hw5, hUo', by omega, hval'⟩
                    · exact (.cons rfl (by first | rfl | (refine congrArg (Value.int _) ?_; omega)) .nil)
                rintro ⟨o2, vo2⟩ w9 ⟨hw9, hU2, hl2, hv2⟩
                show RunC P _ _ _ (_ :: _) _
                refine c_region ?_
                refine l_move rfl rfl rfl ?_
                refine l_move rfl rfl rfl ?_
                refine l_slices (l := (t.length - y - 1) % 19 + 1) (h := (t.drop y).length) rfl rfl Try.underlying9 rfl rfl rfl (by first | rfl | (simp; done) | (simp; omega)) (by first | rfl | (simp; done) | (simp; omega)) (by omega) (by first | omega | (simp; omega) | (simp; done)) ?_
                refine l_assign rfl rfl rfl ?_
                refine l_nil ?_
                refine e_blk ?_
                refine e_againk (i := (y, o, vo)) (y + ((t.length - y - 1) % 19 + 1), o2, vo2) ?_ ?_ .nil ?_
                · first | omega | (simp; omega)
                · have hsp := pv_split t y hy ((t.length - y - 1) % 19 + 1) (by omega)
                  refine ⟨hw9, by omega, by omega, hU2, by omega, ?_, .inr (by omega)⟩
                  rw [hsp, hv2, ← hval, had, hkn2]
                  rcases h19 with h | h
                  · rw [h]; simp
                  · rw [show (t.length - y - 1) % 19 + 1 = 19 from by omega, ten19, Int.mul_comm]
                · exact (.cons rfl (by exact congrArg str (by rw [List.take_length, List.drop_drop])) (.cons rfl (by first | rfl | (refine congrArg (Value.int _) ?_; omega)) .nil))
          · skip
            refine c_exit ?_
            refine e_then_exit ?_
            refine e_then_exit ?_
            refine e_blk_exit ?_
            refine e_then ?_
            refine c_keep [5] (.cons rfl .nil) ?_
            refine c_seq ?_
            refine c_region ?_
            refine l_move rfl rfl rfl ?_
            refine l_call rfl rfl Try.func46 rfl rfl (.cons rfl .nil) (told_turn hUo (by omega) (hw3.io mem0)) ?_
            rintro _ w10 ⟨v', ls, rfl, hcn, hT⟩
            have hw10 := hT _ _ _ _ _ .head hw3
            try clear hT hw3
            refine l_extract rfl rfl rfl rfl ?_
            refine l_extract rfl rfl rfl rfl ?_
            refine l_assign rfl rfl rfl ?_
            refine l_assign rfl rfl rfl ?_
            refine l_nil ?_
            refine e_then ?_
            refine c_keep [2, 3] (.cons rfl (.cons rfl .nil)) ?_
            refine c_ret ?_
            refine e_done2 Try.results21 rfl rfl ?_
            refine ⟨_, rfl, ?_⟩
            have hyt : y = t.length := by omega
            subst hyt
            rw [List.take_length] at hval
            rw [hval] at hcn ⊢
            by_cases hC : 8192 < Ma.blen (pv t)
            · rw [if_pos hC] at hcn ⊢
              rw [parsed_long hc2 hall hC]
              exact ⟨_, _, rfl, hcn, hw10.grows⟩
            · rw [if_neg hC] at hcn ⊢
              rw [parsed_ok hc2 hall (by omega)]
              exact ⟨_, _, rfl, hcn, hw10.grows⟩
end Go.Proofs.Ytnddfmjmeghkjaa.W
