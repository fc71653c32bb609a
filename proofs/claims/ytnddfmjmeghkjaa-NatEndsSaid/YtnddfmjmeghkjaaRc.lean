/- walks of the reference's told, Parse, Digits, Text -/
import Derived.Test.YtnddfmjmeghkjaaRb
import Derived.Test.YtnddfmjmeghkjaaVd
set_option linter.unusedVariables false
set_option linter.unusedSimpArgs false
set_option maxRecDepth 10000
namespace Go.Proofs.Ytnddfmjmeghkjaa.W
open Go.Vc Go.RowKit

/-- the byte of a digit -/
def dig (r : Int) : UInt8 := UInt8.ofNat (48 + r.toNat)
theorem dig_toNat {r : Int} (h : 0 ≤ r ∧ r ≤ 9) : ((dig r).toNat : Int) = 48 + r := by
  have : (dig r).toNat = 48 + r.toNat := by
    unfold dig
    rw [UInt8.toNat_ofNat']
    omega
  omega
/-- the digits of a number; none of 0 -/
def dt0 (n : Nat) : List UInt8 := if h : n = 0 then [] else dt0 (n / 10) ++ [dig ((n % 10 : Nat) : Int)]
termination_by n
decreasing_by omega
theorem dt0_zero : dt0 0 = [] := by rw [dt0]; rfl
theorem dt0_pos {n : Int} (h : 0 < n) : dt0 n.toNat = dt0 (n / 10).toNat ++ [dig (n % 10)] := by
  rw [dt0, dif_neg (by omega)]
  rw [show n.toNat / 10 = (n / 10).toNat from by omega, show ((n.toNat % 10 : Nat) : Int) = n % 10 from by omega]
theorem dt0_ne {n : Int} (h : 0 < n) : dt0 n.toNat ≠ [] := by rw [dt0_pos h]; simp
/-- a number's text -/
def dtx (n : Int) : List UInt8 := if n = 0 then [48] else dt0 n.toNat
/-- what digits say -/
def pv (l : List UInt8) : Int := l.foldl (fun a b => 10 * a + ((b.toNat : Int) - 48)) 0
theorem pv_succ (l : List UInt8) {k : Nat} (h : k < l.length) : pv (l.take (k + 1)) = pv (l.take k) * 10 + (((l.getD k 0).toNat : Int) - 48) := by
  have e : l.take (k + 1) = l.take k ++ [l[k]] := by rw [List.take_succ_eq_append_getElem h]
  have e2 : l.getD k 0 = l[k] := by simp [List.getD, h]
  rw [e, e2, pv, List.foldl_append]
  show 10 * pv (l.take k) + _ = _
  omega
theorem isD.le {b : UInt8} (h : isD b) : 48 ≤ (b.toNat : Int) ∧ (b.toNat : Int) ≤ 57 := h
theorem pv_nonneg_take {l : List UInt8} (h : ∀ j, j < l.length → isD (l.getD j 0)) : ∀ k, k ≤ l.length → 0 ≤ pv (l.take k)
  | 0, _ => by simp [pv]
  | k + 1, hk => by
    have := pv_nonneg_take h k (by omega)
    rw [pv_succ l (by omega)]
    have := (h k (by omega)).le
    omega
theorem pv_mono {l : List UInt8} (h : ∀ j, j < l.length → isD (l.getD j 0)) (k : Nat) : ∀ m, k + m ≤ l.length → pv (l.take k) ≤ pv (l.take (k + m))
  | 0, _ => Int.le_refl _
  | m + 1, hm => by
    have h1 := pv_mono h k m (by omega)
    have h2 := pv_nonneg_take h (k + m) (by omega)
    rw [← Nat.add_assoc, pv_succ l (by omega)]
    have := (h (k + m) (by omega)).le
    omega
/-- what a text is read as: an error's number, and the number -/
def parsed (t : List UInt8) : Int × Int := if t = [] ∨ ¬ (∀ j, j < t.length → isD (t.getD j 0)) then (20, 0) else if 8192 < Ma.blen (pv t) then (21, 0) else (0, pv t)
theorem parsed_bad {t : List UInt8} (h : t = [] ∨ ∃ j, j < t.length ∧ ¬ isD (t.getD j 0)) : parsed t = (20, 0) := if_pos (h.imp id fun ⟨j, hj, hd⟩ h => hd (h j hj))
theorem parsed_long {t : List UInt8} (h0 : t ≠ []) (h : ∀ j, j < t.length → isD (t.getD j 0)) (hl : 8192 < Ma.blen (pv t)) : parsed t = (21, 0) := by
  unfold parsed; rw [if_neg (fun h' => h'.elim h0 fun k => k h), if_pos hl]
theorem parsed_ok {t : List UInt8} (h0 : t ≠ []) (h : ∀ j, j < t.length → isD (t.getD j 0)) (hl : Ma.blen (pv t) ≤ 8192) : parsed t = (0, pv t) := by
  unfold parsed; rw [if_neg (fun h' => h'.elim h0 fun k => k h), if_neg (by omega)]
theorem R16.len {l : List Int} {n : Int} (h : R16 l n) {k : Nat} (hb : Ma.blen n ≤ k) : 16 * l.length ≤ k + 16 := by
  rcases Nat.eq_zero_or_pos l.length with h0 | h0
  · omega
  · have := Ma.blen_top (s := 16) h.dg h.tr h0
    rw [show ((2 : Int) ^ 16) = 65536 from rfl, h.val] at this
    have := Ma.blen_nonneg (l.getD (l.length - 1) 0)
    omega
theorem dt0_len : ∀ (k : Nat) (n : Int), 0 ≤ n → n.toNat ≤ k → ((dt0 n.toNat).length : Int) ≤ Ma.blen n
  | k, n, h, hk => by
    rcases Int.lt_or_eq_of_le h with h1 | h1
    · rw [dt0_pos h1, List.length_append, Ma.blen_half h1]
      have hd : Ma.blen (n / 10) ≤ Ma.blen (n / 2) := Ma.blen_mono (by omega) (by omega)
      match k, hk with
      | 0, hk => omega
      | k + 1, hk =>
        have := dt0_len k (n / 10) (by omega) (by omega)
        simp only [List.length_cons, List.length_nil]
        omega
    · subst h1
      have := Ma.blen_nonneg 0
      rw [show (0 : Int).toNat = 0 from rfl, dt0_zero]
      simpa using this
theorem R16.blen {l : List Int} {n : Int} (h : R16 l n) : Ma.blen n ≤ 16 * l.length := by
  have h1 := Ma.vb_lt (show (0 : Int) < 65536 by omega) h.dg
  rw [h.val, show (65536 : Int) = 2 ^ 16 from rfl, ← Int.pow_mul] at h1
  have := (Ma.blen_le_iff (h.nonneg (by omega)) (16 * l.length)).2 h1
  omega
theorem blen_ten {n d : Int} (h : 0 ≤ n) (hd : 0 ≤ d ∧ d ≤ 9) : Ma.blen (n * 10 + d) ≤ Ma.blen n + 4 := by
  obtain ⟨k, hk⟩ := Int.eq_ofNat_of_zero_le (Ma.blen_nonneg n)
  have h1 := (Ma.blen_le_iff h k).1 (by omega)
  have := (Ma.blen_le_iff (show 0 ≤ n * 10 + d by omega) (k + 4)).2 (by rw [Int.pow_add]; omega)
  omega
theorem blen_ten0 {n : Int} (h : 0 ≤ n) : Ma.blen (n * 10) ≤ Ma.blen n + 4 := by simpa using blen_ten h (d := 0) (by omega)
theorem R16.len_num {l ls : List Int} (hU : U l) (h : R16 ls (nv l)) : ls.length ≤ 4 * l.length + 1 := by
  have h1 : nv l < _ := Ma.vb_lt (show (0 : Int) < 18446744073709551616 by omega) hU.dg
  rw [← p4] at h1
  rcases Nat.eq_zero_or_pos ls.length with h0 | h0
  · omega
  · have h2 := Ma.Tr.pos (show (0 : Int) < 65536 by omega) h.dg h.tr (by intro e; subst e; simp at h0)
    rw [h.val] at h2
    rcases Nat.lt_or_ge (4 * l.length) (ls.length - 1) with h3 | h3
    · have := Ma.pow_mono (show (1 : Int) ≤ 65536 by omega) (show 4 * l.length ≤ ls.length - 1 by omega)
      omega
    · omega
theorem R16.ten : R16 [10] 10 := ⟨fun x hx => by rw [List.mem_singleton.1 hx]; omega, ⟨fun _ => by omega, trivial⟩, by decide⟩
theorem U.one {x : Int} (h : 0 ≤ x ∧ x ≤ 18446744073709551615) : U [x] := fun y hy => by rw [List.mem_singleton.1 hy]; exact h

theorem toldR (v : Value) (l : List Int) (n : Int) (hR : R16 l n) (hL : l.length ≤ 1099511627776) (w : World) (hv : IV w v (ints .i64 l)) :
    CallsV P 74 [v] w fun r w' => NatR w w' r (if 8192 < Ma.blen n then 21 else 0) (if 8192 < Ma.blen n then 0 else n) := by
  refine enterW Try.func74 rfl Try.ntmps74 rfl ?_
  have hw0 := St.start w
  refine c_seq ?_
  refine c_region ?_
  refine l_assign rfl rfl rfl ?_
  refine l_assign rfl rfl rfl ?_
  refine l_nil ?_
  refine e_then ?_
  refine c_keep [0] (.cons rfl .nil) ?_
  refine c_seq ?_
  refine c_seq ?_
  refine c_region ?_
  refine l_move rfl rfl rfl ?_
  refine l_callp rfl rfl Try.func41 rfl rfl (.cons rfl .nil) (bitsR v l n hR (by omega) w (hw0.iarg hv)) ?_
  refine l_gtr rfl rfl rfl rfl ?_
  refine l_nil ?_
  refine e_then ?_
  refine c_keep [0, 6] (.cons rfl (.cons rfl .nil)) ?_
  first | refine c_cond rfl (fun hc0 => ?_) (fun hc0 => ?_) | refine c_condb rfl (fun hc0 => ?_) (fun hc0 => ?_)
  · skip
    refine c_seq ?_
    refine c_region ?_
    refine l_assign rfl rfl rfl ?_
    refine l_assign rfl rfl rfl ?_
    refine l_nil ?_
    refine e_then ?_
    refine c_keep [2, 3] (.cons rfl (.cons rfl .nil)) ?_
    refine c_ret ?_
    refine e_then_ret ?_
    refine e_done2 Try.results74 rfl rfl ?_
    refine ⟨_, rfl, ?_⟩
    rw [if_pos hc0, if_pos hc0]
    exact ⟨_, _, rfl, Ma.Cn.nil, (hw0.nil 22).grows⟩
  · skip
    refine c_skip ?_
    refine e_then ?_
    refine c_keep [0] (.cons rfl .nil) ?_
    refine c_seq ?_
    refine c_region ?_
    refine l_move rfl rfl rfl ?_
    refine l_call rfl rfl Try.func15 rfl rfl (.cons rfl .nil) (wordsR v l n hR (by omega) w (hw0.iarg hv)) ?_
    rintro _ w1 ⟨v', ls, rfl, hcn, hG⟩
    have hw1 := hG _ _ _ _ hw0
    try clear hG hw0
    simp only [List.cons_append, List.nil_append] at hw1
    refine l_assign rfl rfl rfl ?_
    refine l_assign rfl rfl rfl ?_
    refine l_nil ?_
    refine e_then ?_
    refine c_keep [2, 3] (.cons rfl (.cons rfl .nil)) ?_
    refine c_ret ?_
    refine e_done2 Try.results74 rfl rfl ?_
    refine ⟨_, rfl, ?_⟩
    rw [if_neg hc0, if_neg hc0]
    exact ⟨_, _, rfl, hcn, hw1.grows⟩
theorem digitsR (v : Value) (l : List Int) (n : Int) (hR : R16 l n) (hL : l.length ≤ 1048576) (w : World) (hv : IV w v (ints .i64 l)) :
    CallsV P 50 [v] w fun r w' => r = str (dtx n) ∧ Grow w w' [] := by
  refine enterW Try.func50 rfl Try.ntmps50 rfl ?_
  have hw0 := St.start w
  have hlen := dt0_len _ n (hR.nonneg (by omega)) (Nat.le_refl _)
  have hlen2 := hR.blen
  refine c_seq ?_
  refine c_region ?_
  refine l_assign rfl rfl rfl ?_
  refine l_nil ?_
  refine e_then ?_
  refine c_keep [0] (.cons rfl .nil) ?_
  refine c_seq ?_
  refine c_region ?_
  refine l_assign rfl rfl rfl ?_
  refine l_nil ?_
  refine e_then ?_
  refine c_seq ?_
  refine c_block ?_
  refine c_loopk (ι := Int × List Int × Value × List UInt8) (fun (z0 : Int × List Int × Value × List UInt8) => match z0 with | ⟨m, lm, vm, s⟩ => m.toNat) (fun (z0 : Int × List Int × Value × List UInt8) (w' : World) => match z0 with | ⟨m, lm, vm, s⟩ => St w w.heap.size None' ([]) w' ∧ IV w' vm (ints .i64 lm) ∧ R16 lm m ∧ lm.length ≤ 1048576 ∧ 0 ≤ m ∧ m ≤ n ∧ dt0 n.toNat = dt0 m.toNat ++ s) (fun (z0 : Int × List Int × Value × List UInt8) => match z0 with | ⟨m, lm, vm, s⟩ => [(0, vm), (3, str s)]) [] (n, l, v, []) ?_ .nil ?_ ?_
  · exact ⟨hw0, hv, hR, by omega, hR.nonneg (by omega), Int.le_refl _, by simp⟩
  · exact (.cons rfl (by first | rfl | (refine congrArg (Value.int _) ?_; omega)) (.cons rfl (by first | rfl | (refine congrArg (Value.int _) ?_; omega)) .nil))
  rintro ⟨m, lm, vm, s⟩ w1 ⟨hw1, hvm, hRm, hLm, hm0, hm1, hdt⟩
  show RunC P _ _ _ (_ :: _) _
  refine c_seq ?_
  refine c_seq ?_
  refine c_region ?_
  refine l_move rfl rfl rfl ?_
  refine v_leni rfl rfl Try.underlying35 rfl (by first | exact hw1.iarg hv | assumption) ?_
  refine l_gtr rfl rfl rfl rfl ?_
  refine l_nil ?_
  refine e_then ?_
  refine c_keep [0, 3, 8] (.cons rfl (.cons rfl (.cons rfl .nil))) ?_
  first | refine c_cond rfl (fun hc0 => ?_) (fun hc0 => ?_) | refine c_condb rfl (fun hc0 => ?_) (fun hc0 => ?_)
  · skip
    refine c_skip ?_
    refine e_then ?_
    refine c_keep [0, 3] (.cons rfl (.cons rfl .nil)) ?_
    refine c_block ?_
    refine c_seq ?_
    refine c_region ?_
    have hmp : 0 < m := by
      rcases Int.lt_or_le 0 m with h | h
      · exact h
      · have : m = 0 := by omega
        subst this
        have := (hRm.nil_iff (by omega)).2 rfl
        subst this
        simp at hc0
    refine l_move rfl rfl rfl ?_
    refine l_call rfl rfl Try.func73 rfl rfl (.cons rfl (.cons rfl .nil)) (smallR vm lm m 10 hRm (by omega) (by omega) w1 hvm) ?_
    rintro _ w2 ⟨vq, ls, rfl, hRq, hG⟩
    have hw2 := hG _ _ _ _ hw1
    try clear hG hw1
    simp only [List.cons_append, List.nil_append] at hw2
    refine l_move rfl rfl rfl ?_
    refine l_extract rfl rfl rfl rfl ?_
    refine l_extract rfl rfl rfl rfl ?_
    refine l_assign rfl rfl rfl ?_
    refine l_assign rfl rfl rfl ?_
    refine l_nil ?_
    refine e_then ?_
    refine c_keep [3, 4, 5] (.cons rfl (.cons rfl (.cons rfl .nil))) ?_
    refine c_seq ?_
    refine c_region ?_
    refine l_move rfl rfl rfl ?_
    refine l_add rfl rfl rfl rfl (w_i64 (by omega)) ?_
    refine l_conv rfl rfl Try.underlying3 Try.underlying5 rfl (w_u8 (by omega)) ?_
    refine l_turn (s := 16) (v' := .int .u8 ((dig (m % 10)).toNat : Int)) rfl (by rw [dig_toNat (by omega)]) ?_
    refine v_lit hw2 rfl rfl Try.underlying77 ti5 rfl (.cons rfl (by first | rfl | assumption) .nil) rfl rfl rfl (fun b4_3 w3 hw3 => ?_)
    try clear hw2
    refine v_tostr (l := [dig (m % 10)]) rfl rfl Try.underlying77 Try.underlying5 Try.underlying9 rfl (by first | exact hw3.ibl mem0 | exact hw3.io mem1 | exact hw3.iarg hv | assumption) ?_
    refine l_move rfl rfl rfl ?_
    have hsl := congrArg List.length hdt
    rw [List.length_append] at hsl
    refine l_adds rfl rfl rfl rfl (by first | omega | (simp only [List.length_append, List.length_cons, List.length_nil] at *; omega)) ?_
    refine l_assign rfl rfl rfl ?_
    refine l_nil ?_
    refine e_then ?_
    refine c_keep [3, 4] (.cons rfl (.cons rfl .nil)) ?_
    refine c_region ?_
    refine l_move rfl rfl rfl ?_
    refine l_assign rfl rfl rfl ?_
    refine l_nil ?_
    refine e_blk ?_
    have hvq := hw3.io mem1
    have hw4 := St.del (.tail .head) hw3
    try clear hw3
    have hw5 := St.del .head hw4
    try clear hw4
    refine e_againk (i := (m, lm, vm, s)) (m / 10, ls, vq, dig (m % 10) :: s) ?_ ?_ .nil ?_
    · first | omega | (simp; omega)
    · have h3 := dt0_pos hmp
      refine ⟨hw5, hvq, hRq, ?_, by omega, by omega, by rw [hdt, h3]; simp⟩
      rcases Nat.lt_or_ge lm.length ls.length with h | h
      · have := hRm.lt_of_len (show (1 : Int) < 65536 by omega) hRq h
        omega
      · omega
    · exact (.cons rfl (by first | rfl | (refine congrArg (Value.int _) ?_; omega)) (.cons rfl (by first | rfl | (refine congrArg (Value.int _) ?_; omega)) .nil))
  · skip
    refine c_exit ?_
    refine e_then_exit ?_
    refine e_then_exit ?_
    refine e_blk_exit ?_
    refine e_then ?_
    refine c_keep [3] (.cons rfl .nil) ?_
    refine c_seq ?_
    refine c_seq ?_
    refine c_region ?_
    refine l_move rfl rfl rfl ?_
    refine l_eqls rfl rfl rfl rfl ?_
    refine l_nil ?_
    refine e_then ?_
    refine c_keep [3, 23] (.cons rfl (.cons rfl .nil)) ?_
    first | refine c_cond rfl (fun hc1 => ?_) (fun hc1 => ?_) | refine c_condb rfl (fun hc1 => ?_) (fun hc1 => ?_)
    · skip
      refine c_seq ?_
      refine c_region ?_
      refine l_assign rfl rfl rfl ?_
      refine l_nil ?_
      refine e_then ?_
      refine c_keep [2] (.cons rfl .nil) ?_
      refine c_ret ?_
      refine e_then_ret ?_
      refine e_done1 Try.results50 rfl ?_
      refine ⟨_, rfl, ?_⟩
      have hm : m = 0 := (hRm.nil_iff (by omega)).1 (List.eq_nil_of_length_eq_zero (by omega))
      subst hm
      rw [hc1, show (0 : Int).toNat = 0 from rfl, dt0_zero] at hdt
      have hn : n = 0 := by
        rcases Int.lt_or_eq_of_le hm1 with h | h
        · exact absurd hdt (dt0_ne h)
        · exact h.symm
      exact ⟨by unfold dtx; rw [if_pos hn], hw1.grows⟩
    · skip
      refine c_skip ?_
      refine e_then ?_
      refine c_keep [3] (.cons rfl .nil) ?_
      refine c_seq ?_
      refine c_region ?_
      refine l_move rfl rfl rfl ?_
      refine l_assign rfl rfl rfl ?_
      refine l_nil ?_
      refine e_then ?_
      refine c_keep [2] (.cons rfl .nil) ?_
      refine c_ret ?_
      refine e_done1 Try.results50 rfl ?_
      refine ⟨_, rfl, ?_⟩
      have hm : m = 0 := (hRm.nil_iff (by omega)).1 (List.eq_nil_of_length_eq_zero (by omega))
      subst hm
      rw [show (0 : Int).toNat = 0 from rfl, dt0_zero, List.nil_append] at hdt
      have hn : n ≠ 0 := fun h => by subst h; rw [show (0 : Int).toNat = 0 from rfl, dt0_zero] at hdt; exact hc1 hdt.symm
      exact ⟨by unfold dtx; rw [if_neg hn, hdt], hw1.grows⟩
theorem textR (v : Value) (l : List Int) (hU : U l) (hL : l.length ≤ 65536) (w : World) (hv : IV w v (ints .u64 l)) :
    CallsV P 24 [v] w fun r w' => r = str (dtx (nv l)) ∧ Grow w w' [] := by
  refine enterW Try.func24 rfl Try.ntmps24 rfl ?_
  have hw0 := St.start w
  refine c_seq ?_
  refine c_region ?_
  refine l_assign rfl rfl rfl ?_
  refine l_nil ?_
  refine e_then ?_
  refine c_keep [0] (.cons rfl .nil) ?_
  refine c_seq ?_
  refine c_region ?_
  refine l_move rfl rfl rfl ?_
  refine l_call rfl rfl Try.func16 rfl rfl (.cons rfl .nil) (numR v l hU (by omega) w (hw0.iarg hv)) ?_
  rintro vn w1 ⟨_, ls, rfl, hRn, hG⟩
  have hw1 := hG _ _ _ _ hw0
  try clear hG hw0
  simp only [List.cons_append, List.nil_append] at hw1
  refine l_call rfl rfl Try.func50 rfl rfl (.cons rfl .nil) (digitsR vn ls _ hRn (by have := R16.len_num hU hRn; omega) w1 (hw1.io mem0)) ?_
  rintro _ w2 ⟨rfl, hG⟩
  have hw2 := hG _ _ _ _ hw1
  try clear hG hw1
  simp only [List.cons_append, List.nil_append] at hw2
  refine l_assign rfl rfl rfl ?_
  refine l_nil ?_
  refine e_then ?_
  refine c_keep [2] (.cons rfl .nil) ?_
  refine c_ret ?_
  refine e_done1 Try.results24 rfl ?_
  refine ⟨_, rfl, ?_⟩
  have hw3 := St.del .head hw2
  try clear hw2
  exact ⟨rfl, hw3.grows⟩
theorem parseR (t : List UInt8) (hL : t.length ≤ 140737488355328) (w : World) :
    CallsV P 22 [str t] w fun r w' => NatR w w' r (parsed t).1 (parsed t).2 := by
  refine enterW Try.func22 rfl Try.ntmps22 rfl ?_
  have hw0 := St.start w
  refine c_seq ?_
  refine c_region ?_
  refine l_assign rfl rfl rfl ?_
  refine l_assign rfl rfl rfl ?_
  refine l_nil ?_
  refine e_then ?_
  refine c_keep [0] (.cons rfl .nil) ?_
  refine c_seq ?_
  refine c_seq ?_
  refine c_region ?_
  refine l_move rfl rfl rfl ?_
  refine l_eqls rfl rfl rfl rfl ?_
  refine l_nil ?_
  refine e_then ?_
  refine c_keep [0, 8] (.cons rfl (.cons rfl .nil)) ?_
  first | refine c_cond rfl (fun hc0 => ?_) (fun hc0 => ?_) | refine c_condb rfl (fun hc0 => ?_) (fun hc0 => ?_)
  · skip
    refine c_seq ?_
    refine c_region ?_
    refine l_assign rfl rfl rfl ?_
    refine l_assign rfl rfl rfl ?_
    refine l_nil ?_
    refine e_then ?_
    refine c_keep [2, 3] (.cons rfl (.cons rfl .nil)) ?_
    refine c_ret ?_
    refine e_then_ret ?_
    refine e_done2 Try.results22 rfl rfl ?_
    refine ⟨_, rfl, ?_⟩
    rw [parsed_bad (.inl hc0)]
    exact ⟨_, _, rfl, Ma.Cn.nil, (hw0.nil 22).grows⟩
  · skip
    refine c_skip ?_
    refine e_then ?_
    refine c_keep [0] (.cons rfl .nil) ?_
    refine c_seq ?_
    refine c_seq ?_
    refine c_region ?_
    refine l_assign rfl rfl rfl ?_
    refine l_nil ?_
    refine e_then ?_
    refine c_block ?_
    refine c_loopk (ι := Nat) (fun (k : Nat) => t.length - k) (fun (k : Nat) (w' : World) => St w w.heap.size None' ([]) w' ∧ k ≤ t.length ∧ ∀ j, j < k → isD (t.getD j 0)) (fun (k : Nat) => [(4, .int .i64 (k : Int))]) [0] (0) ?_ (.cons rfl .nil) ?_ ?_
    · exact ⟨hw0, by omega, fun j hj => by omega⟩
    · exact (.cons rfl (by first | rfl | (refine congrArg (Value.int _) ?_; omega)) .nil)
    rintro k w1 ⟨hw1, hk, hd⟩
    show RunC P _ _ _ (_ :: _) _
    refine c_seq ?_
    refine c_seq ?_
    refine c_region ?_
    refine l_move rfl rfl rfl ?_
    refine l_move rfl rfl rfl ?_
    refine l_lenstr rfl rfl Try.underlying9 rfl ?_
    refine l_lss rfl rfl rfl rfl ?_
    refine l_nil ?_
    refine e_then ?_
    refine c_keep [0, 4, 12] (.cons rfl (.cons rfl (.cons rfl .nil))) ?_
    first | refine c_cond rfl (fun hc1 => ?_) (fun hc1 => ?_) | refine c_condb rfl (fun hc1 => ?_) (fun hc1 => ?_)
    · skip
      refine c_skip ?_
      refine e_then ?_
      refine c_keep [0, 4] (.cons rfl (.cons rfl .nil)) ?_
      refine c_seq ?_
      refine c_block ?_
      refine c_seq ?_
      refine c_region ?_
      refine l_move rfl rfl rfl ?_
      refine l_move rfl rfl rfl ?_
      refine v_gets rfl rfl Try.underlying9 rfl rfl rfl (by first | omega | (simp; omega) | (simp; done)) (fun hb6_2 => ?_)
      refine l_lss rfl rfl rfl rfl ?_
      refine l_move rfl rfl rfl ?_
      apply l_or 4 [0, 4] rfl rfl (.cons rfl (.cons rfl (.cons rfl .nil))) rfl rfl (fun _ => rfl) rfl rfl rfl
      · intro hg6_5
        refine l_move rfl rfl rfl ?_
        refine l_move rfl rfl rfl ?_
        refine v_gets rfl rfl Try.underlying9 rfl rfl rfl (by first | omega | (simp; omega) | (simp; done)) (fun hb6_7 => ?_)
        refine l_gtr rfl rfl rfl rfl ?_
        refine l_nil ?_
        exact e_stays rfl (.cons rfl (congrArg Value.bool (decide_eq_false hg6_5).symm) (.cons rfl rfl (.cons rfl rfl .nil)))
      refine l_nil ?_
      refine e_then ?_
      refine c_keep [0, 4, 24] (.cons rfl (.cons rfl (.cons rfl .nil))) ?_
      first | refine c_cond rfl (fun hc2 => ?_) (fun hc2 => ?_) | refine c_condb rfl (fun hc2 => ?_) (fun hc2 => ?_)
      · skip
        refine c_seq ?_
        refine c_region ?_
        refine l_assign rfl rfl rfl ?_
        refine l_assign rfl rfl rfl ?_
        refine l_nil ?_
        refine e_then ?_
        refine c_keep [2, 3] (.cons rfl (.cons rfl .nil)) ?_
        refine c_ret ?_
        refine e_blk_ret ?_
        refine e_then_ret ?_
        refine e_then_ret ?_
        refine e_blk_ret ?_
        refine e_then_ret ?_
        refine e_done2 Try.results22 rfl rfl ?_
        refine ⟨_, rfl, ?_⟩
        rw [parsed_bad (.inr ⟨k, by omega, fun h => by have := h.le; omega⟩)]
        exact ⟨_, _, rfl, Ma.Cn.nil, (hw1.nil 22).grows⟩
      · skip
        refine c_skip ?_
        refine e_blk ?_
        refine e_then ?_
        refine c_keep [0, 4] (.cons rfl (.cons rfl .nil)) ?_
        refine c_region ?_
        refine l_move rfl rfl rfl ?_
        refine l_add rfl rfl rfl rfl (w_i64 (by omega)) ?_
        refine l_assign rfl rfl rfl ?_
        refine l_nil ?_
        refine e_againk (i := (k)) (k + 1) ?_ ?_ (.cons rfl .nil) ?_
        · first | omega | (simp; omega)
        · refine ⟨hw1, by omega, fun j hj => ?_⟩
          rcases Nat.lt_or_ge j k with h | h
          · exact hd j h
          · obtain rfl : j = k := by omega
            exact ⟨by omega, by omega⟩
        · exact (.cons rfl (by first | rfl | (refine congrArg (Value.int _) ?_; omega)) .nil)
    · skip
      refine c_exit ?_
      refine e_then_exit ?_
      refine e_then_exit ?_
      refine e_blk_exit ?_
      refine e_then ?_
      refine c_keep [0] (.cons rfl .nil) ?_
      refine c_seq ?_
      refine c_region ?_
      have hall : ∀ j, j < t.length → isD (t.getD j 0) := fun j hj => hd j (by omega)
      have ht0 : t ≠ [] := hc0
      refine l_assign rfl rfl rfl ?_
      refine l_nil ?_
      refine e_then ?_
      refine c_seq ?_
      refine c_seq ?_
      refine c_region ?_
      refine l_assign rfl rfl rfl ?_
      refine l_nil ?_
      refine e_then ?_
      refine c_block ?_
      refine c_loopk (ι := Nat × List Int × Value) (fun (z0 : Nat × List Int × Value) => match z0 with | ⟨k, lx, vx⟩ => t.length - k) (fun (z0 : Nat × List Int × Value) (w' : World) => match z0 with | ⟨k, lx, vx⟩ => St w w.heap.size None' ([As.ri 3 .i64 vx lx]) w' ∧ k ≤ t.length ∧ R16 lx (pv (t.take k)) ∧ Ma.blen (pv (t.take k)) ≤ 8192) (fun (z0 : Nat × List Int × Value) => match z0 with | ⟨k, lx, vx⟩ => [(5, vx), (6, .int .i64 (k : Int))]) [0] (0, [], .slice none 0 0) ?_ (.cons rfl .nil) ?_ ?_
      · exact ⟨hw1.nil 3, by omega, Ma.Cn.nil, by rw [List.take_zero]; decide⟩
      · exact (.cons rfl (by first | rfl | (refine congrArg (Value.int _) ?_; omega)) (.cons rfl (by first | rfl | (refine congrArg (Value.int _) ?_; omega)) .nil))
      rintro ⟨k, lx, vx⟩ w2 ⟨hw2, hk2, hRx, hbx⟩
      show RunC P _ _ _ (_ :: _) _
      refine c_seq ?_
      refine c_seq ?_
      refine c_region ?_
      refine l_move rfl rfl rfl ?_
      refine l_move rfl rfl rfl ?_
      refine l_lenstr rfl rfl Try.underlying9 rfl ?_
      refine l_lss rfl rfl rfl rfl ?_
      refine l_nil ?_
      refine e_then ?_
      refine c_keep [0, 5, 6, 28] (.cons rfl (.cons rfl (.cons rfl (.cons rfl .nil)))) ?_
      first | refine c_cond rfl (fun hc3 => ?_) (fun hc3 => ?_) | refine c_condb rfl (fun hc3 => ?_) (fun hc3 => ?_)
      · skip
        refine c_skip ?_
        refine e_then ?_
        refine c_keep [0, 5, 6] (.cons rfl (.cons rfl (.cons rfl .nil))) ?_
        refine c_seq ?_
        refine c_block ?_
        refine c_cutk (ι := List Int × Value) (fun (z0 : List Int × Value) (w' : World) => match z0 with | ⟨l2, vx2⟩ => St w w.heap.size None' ([As.ri 3 .i64 vx2 l2]) w' ∧ R16 l2 (pv (t.take (k + 1))) ∧ Ma.blen (pv (t.take (k + 1))) ≤ 8196) (fun (z0 : List Int × Value) => match z0 with | ⟨l2, vx2⟩ => [(5, vx2)]) [0, 6] (.cons rfl (.cons rfl .nil)) ?_ ?_
        · skip
          have hw3 := hw2.drewn
          try clear hw2
          have hdk := (hall k (by omega)).le
          have hlx := hRx.len (k := 8192) hbx
          refine c_any (n := 12) [false, false, false, false, false, false, false, false, false, false, false, false] (fun wS => True) (by kernel_rfl) rfl rfl ?_
          apply a_take (L' := [true, false, false, false, false, false, false, false, false, false, false, false]) 0 rfl (by kernel_rfl) (by kernel_rfl) (by kernel_rfl) rfl rfl rfl rfl rfl (trivial)
          · intro wS sS
            refine l_move rfl rfl rfl ?_
            refine l_nil ?_
            exact e_got rfl
          apply a_take (L' := [true, false, false, true, false, false, false, false, false, false, false, false]) 3 rfl (by kernel_rfl) (by kernel_rfl) (by kernel_rfl) rfl rfl rfl rfl rfl (trivial)
          · intro wS sS
            refine l_move rfl rfl rfl ?_
            refine l_nil ?_
            exact e_got rfl
          apply a_take (L' := [true, false, false, true, true, false, false, false, false, false, false, false]) 4 rfl (by kernel_rfl) (by kernel_rfl) (by kernel_rfl) rfl rfl rfl rfl rfl (trivial)
          · intro wS sS
            refine l_move rfl rfl rfl ?_
            refine l_nil ?_
            exact e_got rfl
          apply a_take (L' := [true, false, false, true, true, true, false, false, false, false, false, false]) 5 rfl (by kernel_rfl) (by kernel_rfl) (by kernel_rfl) rfl rfl rfl rfl rfl (trivial)
          · intro wS sS
            refine v_gets rfl rfl Try.underlying9 rfl rfl rfl (by first | omega | (simp; omega) | (simp; done)) (fun hb12_5 => ?_)
            refine l_nil ?_
            exact e_got rfl
          apply a_take (L' := [true, false, false, true, true, true, true, false, false, false, false, false]) 6 rfl (by kernel_rfl) (by kernel_rfl) (by kernel_rfl) rfl rfl rfl rfl rfl (trivial)
          · intro wS sS
            refine l_sub rfl rfl rfl rfl (w_u8 (by omega)) ?_
            refine l_nil ?_
            exact e_got rfl
          apply a_take (L' := [true, false, false, true, true, true, true, true, false, false, false, false]) 7 rfl (by kernel_rfl) (by kernel_rfl) (by kernel_rfl) rfl rfl rfl rfl rfl (trivial)
          · intro wS sS
            refine l_conv rfl rfl Try.underlying5 Try.underlying22 rfl (w_u64 (by omega)) ?_
            refine l_nil ?_
            exact e_got rfl
          refine a_two (L' := [true, true, false, true, true, true, true, true, false, false, false, false]) (L'' := [true, false, false, true, true, true, true, true, true, false, false, false]) 1 8 (by kernel_rfl) rfl rfl rfl rfl ?_ ?_
          · skip
            refine v_lit hw3 rfl rfl Try.underlying35 ti3 rfl (.cons rfl (by first | rfl | assumption) .nil) rfl rfl rfl (fun b12_1 w4 hw4 => ?_)
            try clear hw3
            refine l_nil ?_
            refine e_any (trivial) ?_
            refine a_two (L' := [true, true, true, true, true, true, true, true, false, false, false, false]) (L'' := [true, true, false, true, true, true, true, true, true, false, false, false]) 2 8 (by kernel_rfl) rfl rfl rfl rfl ?_ ?_
            · skip
              refine l_call rfl rfl Try.func40 rfl rfl (.cons rfl (.cons rfl .nil)) (prodR _ _ _ _ _ _ hRx R16.ten (by omega) (by simp) w4 (hw4.io mem1) (hw4.ibl mem0)) ?_
              rintro vp w5 ⟨_, lp, rfl, hRp, hG⟩
              have hw5 := hG _ _ _ _ hw4
              try clear hG hw4
              simp only [List.cons_append, List.nil_append] at hw5
              refine l_nil ?_
              refine e_any (trivial) ?_
              refine a_one (L' := [true, true, true, true, true, true, true, true, true, false, false, false]) 8 (by kernel_rfl) rfl rfl ?_
              refine v_lit hw5 rfl rfl Try.underlying25 ti22 rfl (.cons rfl (by first | rfl | assumption) .nil) rfl rfl rfl (fun b12_8 w6 hw6 => ?_)
              try clear hw5
              refine l_nil ?_
              refine e_any (trivial) ?_
              refine a_one (L' := [true, true, true, true, true, true, true, true, true, true, false, false]) 9 (by kernel_rfl) rfl rfl ?_
              refine l_call rfl rfl Try.func16 rfl rfl (.cons rfl .nil) (numR _ [((t.getD k 0).toNat : Int) - 48] (U.one (by omega)) (by simp) w6 (hw6.ibl mem0)) ?_
              rintro vn w7 ⟨_, ln, rfl, hRn, hG⟩
              have hw7 := hG _ _ _ _ hw6
              try clear hG hw6
              simp only [List.cons_append, List.nil_append] at hw7
              refine l_nil ?_
              refine e_any (trivial) ?_
              refine a_one (L' := [true, true, true, true, true, true, true, true, true, true, true, false]) 10 (by kernel_rfl) rfl rfl ?_
              refine l_call rfl rfl Try.func47 rfl rfl (.cons rfl (.cons rfl .nil)) (sumR _ _ _ _ _ _ hRp hRn (by have := hRp.len (k := 8196) (by have := blen_ten0 (hRx.nonneg (by omega)); omega); omega) (by have := R16.len_num (U.one (by omega)) hRn; simp at this; omega) w7 (hw7.io mem2) (hw7.io mem0)) ?_
              rintro vs w8 ⟨_, ls2, rfl, hRs, hG⟩
              have hw8 := hG _ _ _ _ hw7
              try clear hG hw7
              simp only [List.cons_append, List.nil_append] at hw8
              refine l_nil ?_
              refine e_any (trivial) ?_
              apply a_take (L' := [true, true, true, true, true, true, true, true, true, true, true, true]) 11 rfl (by kernel_rfl) (by kernel_rfl) (by kernel_rfl) rfl rfl rfl rfl rfl (trivial)
              · intro wS sS
                refine l_assign rfl rfl rfl ?_
                refine l_nil ?_
                exact e_got rfl
              refine a_done (by kernel_rfl) ?_
              have hw9 := St.del (.tail (.tail (.tail (.tail (.tail .head))))) hw8
              try clear hw8
              have hw10 := St.del (.tail (.tail (.tail (.tail .head)))) hw9
              try clear hw9
              have hw11 := St.del (.tail (.tail (.tail .head))) hw10
              try clear hw10
              have hw12 := St.del (.tail (.tail .head)) hw11
              try clear hw11
              have hw13 := St.del (.tail .head) hw12
              try clear hw12
              refine e_meetk (ls2, vs) ?_ (.cons rfl (.cons rfl .nil)) ?_
              · exact ⟨hw13, by rw [pv_succ t (by omega)]; simpa [Ma.vb] using hRs, by rw [pv_succ t (by omega)]; have := blen_ten (hRx.nonneg (by omega)) (d := ((t.getD k 0).toNat : Int) - 48) (by omega); omega⟩
              · exact (.cons rfl (by first | rfl | (refine congrArg (Value.int _) ?_; omega)) .nil)
            · skip
              refine v_lit hw4 rfl rfl Try.underlying25 ti22 rfl (.cons rfl (by first | rfl | assumption) .nil) rfl rfl rfl (fun b12_8 w14 hw14 => ?_)
              try clear hw4
              refine l_nil ?_
              refine e_any (trivial) ?_
              refine a_one (L' := [true, true, true, true, true, true, true, true, true, false, false, false]) 2 (by kernel_rfl) rfl rfl ?_
              refine l_call rfl rfl Try.func40 rfl rfl (.cons rfl (.cons rfl .nil)) (prodR _ _ _ _ _ _ hRx R16.ten (by omega) (by simp) w14 (hw14.io mem2) (hw14.ibl mem1)) ?_
              rintro vp w15 ⟨_, lp, rfl, hRp, hG⟩
              have hw15 := hG _ _ _ _ hw14
              try clear hG hw14
              simp only [List.cons_append, List.nil_append] at hw15
              refine l_nil ?_
              refine e_any (trivial) ?_
              refine a_one (L' := [true, true, true, true, true, true, true, true, true, true, false, false]) 9 (by kernel_rfl) rfl rfl ?_
              refine l_call rfl rfl Try.func16 rfl rfl (.cons rfl .nil) (numR _ [((t.getD k 0).toNat : Int) - 48] (U.one (by omega)) (by simp) w15 (hw15.ibl mem1)) ?_
              rintro vn w16 ⟨_, ln, rfl, hRn, hG⟩
              have hw16 := hG _ _ _ _ hw15
              try clear hG hw15
              simp only [List.cons_append, List.nil_append] at hw16
              refine l_nil ?_
              refine e_any (trivial) ?_
              refine a_one (L' := [true, true, true, true, true, true, true, true, true, true, true, false]) 10 (by kernel_rfl) rfl rfl ?_
              refine l_call rfl rfl Try.func47 rfl rfl (.cons rfl (.cons rfl .nil)) (sumR _ _ _ _ _ _ hRp hRn (by have := hRp.len (k := 8196) (by have := blen_ten0 (hRx.nonneg (by omega)); omega); omega) (by have := R16.len_num (U.one (by omega)) hRn; simp at this; omega) w16 (hw16.io mem1) (hw16.io mem0)) ?_
              rintro vs w17 ⟨_, ls2, rfl, hRs, hG⟩
              have hw17 := hG _ _ _ _ hw16
              try clear hG hw16
              simp only [List.cons_append, List.nil_append] at hw17
              refine l_nil ?_
              refine e_any (trivial) ?_
              apply a_take (L' := [true, true, true, true, true, true, true, true, true, true, true, true]) 11 rfl (by kernel_rfl) (by kernel_rfl) (by kernel_rfl) rfl rfl rfl rfl rfl (trivial)
              · intro wS sS
                refine l_assign rfl rfl rfl ?_
                refine l_nil ?_
                exact e_got rfl
              refine a_done (by kernel_rfl) ?_
              have hw18 := St.del (.tail (.tail (.tail (.tail (.tail .head))))) hw17
              try clear hw17
              have hw19 := St.del (.tail (.tail (.tail (.tail .head)))) hw18
              try clear hw18
              have hw20 := St.del (.tail (.tail (.tail .head))) hw19
              try clear hw19
              have hw21 := St.del (.tail (.tail .head)) hw20
              try clear hw20
              have hw22 := St.del (.tail .head) hw21
              try clear hw21
              refine e_meetk (ls2, vs) ?_ (.cons rfl (.cons rfl .nil)) ?_
              · exact ⟨hw22, by rw [pv_succ t (by omega)]; simpa [Ma.vb] using hRs, by rw [pv_succ t (by omega)]; have := blen_ten (hRx.nonneg (by omega)) (d := ((t.getD k 0).toNat : Int) - 48) (by omega); omega⟩
              · exact (.cons rfl (by first | rfl | (refine congrArg (Value.int _) ?_; omega)) .nil)
          · skip
            refine v_lit hw3 rfl rfl Try.underlying25 ti22 rfl (.cons rfl (by first | rfl | assumption) .nil) rfl rfl rfl (fun b12_8 w23 hw23 => ?_)
            try clear hw3
            refine l_nil ?_
            refine e_any (trivial) ?_
            refine a_one (L' := [true, true, false, true, true, true, true, true, true, false, false, false]) 1 (by kernel_rfl) rfl rfl ?_
            refine v_lit hw23 rfl rfl Try.underlying35 ti3 rfl (.cons rfl (by first | rfl | assumption) .nil) rfl rfl rfl (fun b12_1 w24 hw24 => ?_)
            try clear hw23
            refine l_nil ?_
            refine e_any (trivial) ?_
            refine a_one (L' := [true, true, true, true, true, true, true, true, true, false, false, false]) 2 (by kernel_rfl) rfl rfl ?_
            refine l_call rfl rfl Try.func40 rfl rfl (.cons rfl (.cons rfl .nil)) (prodR _ _ _ _ _ _ hRx R16.ten (by omega) (by simp) w24 (hw24.io mem2) (hw24.ibl mem0)) ?_
            rintro vp w25 ⟨_, lp, rfl, hRp, hG⟩
            have hw25 := hG _ _ _ _ hw24
            try clear hG hw24
            simp only [List.cons_append, List.nil_append] at hw25
            refine l_nil ?_
            refine e_any (trivial) ?_
            refine a_one (L' := [true, true, true, true, true, true, true, true, true, true, false, false]) 9 (by kernel_rfl) rfl rfl ?_
            refine l_call rfl rfl Try.func16 rfl rfl (.cons rfl .nil) (numR _ [((t.getD k 0).toNat : Int) - 48] (U.one (by omega)) (by simp) w25 (hw25.ibl mem2)) ?_
            rintro vn w26 ⟨_, ln, rfl, hRn, hG⟩
            have hw26 := hG _ _ _ _ hw25
            try clear hG hw25
            simp only [List.cons_append, List.nil_append] at hw26
            refine l_nil ?_
            refine e_any (trivial) ?_
            refine a_one (L' := [true, true, true, true, true, true, true, true, true, true, true, false]) 10 (by kernel_rfl) rfl rfl ?_
            refine l_call rfl rfl Try.func47 rfl rfl (.cons rfl (.cons rfl .nil)) (sumR _ _ _ _ _ _ hRp hRn (by have := hRp.len (k := 8196) (by have := blen_ten0 (hRx.nonneg (by omega)); omega); omega) (by have := R16.len_num (U.one (by omega)) hRn; simp at this; omega) w26 (hw26.io mem1) (hw26.io mem0)) ?_
            rintro vs w27 ⟨_, ls2, rfl, hRs, hG⟩
            have hw27 := hG _ _ _ _ hw26
            try clear hG hw26
            simp only [List.cons_append, List.nil_append] at hw27
            refine l_nil ?_
            refine e_any (trivial) ?_
            apply a_take (L' := [true, true, true, true, true, true, true, true, true, true, true, true]) 11 rfl (by kernel_rfl) (by kernel_rfl) (by kernel_rfl) rfl rfl rfl rfl rfl (trivial)
            · intro wS sS
              refine l_assign rfl rfl rfl ?_
              refine l_nil ?_
              exact e_got rfl
            refine a_done (by kernel_rfl) ?_
            have hw28 := St.del (.tail (.tail (.tail (.tail (.tail .head))))) hw27
            try clear hw27
            have hw29 := St.del (.tail (.tail (.tail (.tail .head)))) hw28
            try clear hw28
            have hw30 := St.del (.tail (.tail (.tail .head))) hw29
            try clear hw29
            have hw31 := St.del (.tail (.tail .head)) hw30
            try clear hw30
            have hw32 := St.del (.tail .head) hw31
            try clear hw31
            refine e_meetk (ls2, vs) ?_ (.cons rfl (.cons rfl .nil)) ?_
            · exact ⟨hw32, by rw [pv_succ t (by omega)]; simpa [Ma.vb] using hRs, by rw [pv_succ t (by omega)]; have := blen_ten (hRx.nonneg (by omega)) (d := ((t.getD k 0).toNat : Int) - 48) (by omega); omega⟩
            · exact (.cons rfl (by first | rfl | (refine congrArg (Value.int _) ?_; omega)) .nil)
        rintro ⟨l2, vx2⟩ w33 ⟨hw33, hR2, hb2⟩
        show RunC P _ _ _ (_ :: _) _
        refine c_seq ?_
        refine c_region ?_
        refine l_move rfl rfl rfl ?_
        refine l_callp rfl rfl Try.func41 rfl rfl (.cons rfl .nil) (bitsR _ _ _ hR2 (by have := hR2.len (k := 8196) hb2; omega) w33 (hw33.io mem0)) ?_
        refine l_gtr rfl rfl rfl rfl ?_
        refine l_nil ?_
        refine e_then ?_
        refine c_keep [0, 5, 6, 44] (.cons rfl (.cons rfl (.cons rfl (.cons rfl .nil)))) ?_
        first | refine c_cond rfl (fun hc4 => ?_) (fun hc4 => ?_) | refine c_condb rfl (fun hc4 => ?_) (fun hc4 => ?_)
        · skip
          refine c_seq ?_
          refine c_region ?_
          refine l_assign rfl rfl rfl ?_
          refine l_assign rfl rfl rfl ?_
          refine l_nil ?_
          refine e_then ?_
          refine c_keep [2, 3] (.cons rfl (.cons rfl .nil)) ?_
          refine c_ret ?_
          refine e_blk_ret ?_
          refine e_then_ret ?_
          refine e_then_ret ?_
          refine e_blk_ret ?_
          refine e_then_ret ?_
          refine e_done2 Try.results22 rfl rfl ?_
          refine ⟨_, rfl, ?_⟩
          have hw34 := St.del .head hw33
          try clear hw33
          have hm := pv_mono hall (k + 1) (t.length - (k + 1)) (by omega)
          rw [show k + 1 + (t.length - (k + 1)) = t.length from by omega, List.take_length] at hm
          have hb3 := Ma.blen_mono (hR2.nonneg (by omega)) hm
          rw [parsed_long ht0 hall (by omega)]
          exact ⟨_, _, rfl, Ma.Cn.nil, (hw34.nil 22).grows⟩
        · skip
          refine c_skip ?_
          refine e_blk ?_
          refine e_then ?_
          refine c_keep [0, 5, 6] (.cons rfl (.cons rfl (.cons rfl .nil))) ?_
          refine c_region ?_
          refine l_move rfl rfl rfl ?_
          refine l_add rfl rfl rfl rfl (w_i64 (by omega)) ?_
          refine l_assign rfl rfl rfl ?_
          refine l_nil ?_
          refine e_againk (i := (k, lx, vx)) (k + 1, l2, vx2) ?_ ?_ (.cons rfl .nil) ?_
          · first | omega | (simp; omega)
          · exact ⟨hw33, by omega, hR2, by omega⟩
          · exact (.cons rfl (by first | rfl | (refine congrArg (Value.int _) ?_; omega)) (.cons rfl (by first | rfl | (refine congrArg (Value.int _) ?_; omega)) .nil))
      · skip
        refine c_exit ?_
        refine e_then_exit ?_
        refine e_then_exit ?_
        refine e_blk_exit ?_
        refine e_then ?_
        refine c_keep [5] (.cons rfl .nil) ?_
        refine c_seq ?_
        refine c_region ?_
        have hlx := hRx.len (k := 8192) hbx
        refine l_move rfl rfl rfl ?_
        refine l_call rfl rfl Try.func15 rfl rfl (.cons rfl .nil) (wordsR vx lx _ hRx (by omega) w2 (hw2.io mem0)) ?_
        rintro vw w35 ⟨_, ls, rfl, hcn, hG⟩
        have hw35 := hG _ _ _ _ hw2
        try clear hG hw2
        simp only [List.cons_append, List.nil_append] at hw35
        refine l_assign rfl rfl rfl ?_
        refine l_assign rfl rfl rfl ?_
        refine l_nil ?_
        refine e_then ?_
        refine c_keep [2, 3] (.cons rfl (.cons rfl .nil)) ?_
        refine c_ret ?_
        refine e_done2 Try.results22 rfl rfl ?_
        refine ⟨_, rfl, ?_⟩
        have hw36 := St.del (.tail .head) hw35
        try clear hw35
        have hk3 : k = t.length := by omega
        subst hk3
        rw [List.take_length] at hcn hbx
        rw [parsed_ok ht0 hall hbx]
        exact ⟨_, _, rfl, hcn, hw36.grows⟩
end Go.Proofs.Ytnddfmjmeghkjaa.W
