/- walks of the reference's told, Parse, Digits, Text -/
import Derived.Test.YtojjlipcjdaejaaGreatDoorRb
import Derived.Test.YtojjlipcjdaejaaGreatDoorVd
set_option linter.unusedVariables false
set_option linter.unusedSimpArgs false
set_option maxRecDepth 10000
namespace Go.Proofs.YtojjlipcjdaejaaGreatDoor.W
open Go.Vc Go.RowKit
def dig (r : Int) : UInt8 := UInt8.ofNat (48 + r.toNat)
theorem dig_toNat {r : Int} (h : 0 ≤ r ∧ r ≤ 9) : ((dig r).toNat : Int) = 48 + r := by
 have : (dig r).toNat = 48 + r.toNat := by
  unfold dig
  rw [UInt8.toNat_ofNat']
  omega
 omega
def dt0 (n : Nat) : List UInt8 := if h : n = 0 then [] else dt0 (n / 10) ++ [dig ((n % 10 : Nat) : Int)]
termination_by n
decreasing_by omega
theorem dt0_zero : dt0 0 = [] := by rw [dt0]; rfl
theorem dt0_pos {n : Int} (h : 0 < n) : dt0 n.toNat = dt0 (n / 10).toNat ++ [dig (n % 10)] := by
 rw [dt0, dif_neg (by omega)]
 rw [show n.toNat / 10 = (n / 10).toNat from by omega, show ((n.toNat % 10 : Nat) : Int) = n % 10 from by omega]
theorem dt0_ne {n : Int} (h : 0 < n) : dt0 n.toNat ≠ [] := by rw [dt0_pos h]; simp
def dtx (n : Int) : List UInt8 := if n = 0 then [48] else dt0 n.toNat
theorem isD.le {b : UInt8} (h : isD b) : 48 ≤ (b.toNat : Int) ∧ (b.toNat : Int) ≤ 57 := h
theorem R16.len {l : List Int} {n : Int} (h : R16 l n) {k : Nat} (hb : Ma.blen n ≤ k) : 16 * l.length ≤ k + 16 := by
 rcases Nat.eq_zero_or_pos l.length with h0 | h0
 ·omega
 ·have := Ma.blen_top (s := 16) h.dg h.tr h0
  rw [show ((2 : Int) ^ 16) = 65536 from rfl, h.val] at this
  have := Ma.blen_nonneg (l.getD (l.length - 1) 0)
  omega
theorem dt0_len : ∀ (k : Nat) (n : Int), 0 ≤ n → n.toNat ≤ k → ((dt0 n.toNat).length : Int) ≤ Ma.blen n
 | k, n, h, hk => by
  rcases Int.lt_or_eq_of_le h with h1 | h1
  ·rw [dt0_pos h1, List.length_append, Ma.blen_half h1]
   have hd : Ma.blen (n / 10) ≤ Ma.blen (n / 2) := Ma.blen_mono (by omega) (by omega)
   match k, hk with
   | 0, hk => omega
   | k + 1, hk =>
    have := dt0_len k (n / 10) (by omega) (by omega)
    simp only [List.length_cons, List.length_nil]
    omega
  ·subst h1
   have := Ma.blen_nonneg 0
   rw [show (0 : Int).toNat = 0 from rfl, dt0_zero]
   simpa using this
theorem R16.blen {l : List Int} {n : Int} (h : R16 l n) : Ma.blen n ≤ 16 * l.length := by
 have h1 := Ma.vb_lt (show (0 : Int) < 65536 by omega) h.dg
 rw [h.val, show (65536 : Int) = 2 ^ 16 from rfl, ← Int.pow_mul] at h1
 have := (Ma.blen_le_iff (h.nonneg (by omega)) (16 * l.length)).2 h1
 omega
theorem R16.len_num {l ls : List Int} (hU : U l) (h : R16 ls (nv l)) : ls.length ≤ 4 * l.length + 1 := by
 have h1 : nv l < _ := Ma.vb_lt (show (0 : Int) < 18446744073709551616 by omega) hU.dg
 rw [← p4] at h1
 rcases Nat.eq_zero_or_pos ls.length with h0 | h0
 ·omega
 ·have h2 := Ma.Tr.pos (show (0 : Int) < 65536 by omega) h.dg h.tr (by intro e; subst e; simp at h0)
  rw [h.val] at h2
  rcases Nat.lt_or_ge (4 * l.length) (ls.length - 1) with h3 | h3
  ·have := Ma.pow_mono (show (1 : Int) ≤ 65536 by omega) (show 4 * l.length ≤ ls.length - 1 by omega)
   omega
  ·omega
theorem R16.ten : R16 [10] 10 := ⟨fun x hx => by rw [List.mem_singleton.1 hx]; omega, ⟨fun _ => by omega, trivial⟩, by decide⟩
theorem U.one {x : Int} (h : 0 ≤ x ∧ x ≤ 18446744073709551615) : U [x] := fun y hy => by rw [List.mem_singleton.1 hy]; exact h
theorem digitsR (v : Value) (l : List Int) (n : Int) (hR : R16 l n) (hL : l.length ≤ 1048576) (w : World) (hv : IV w v (ints .i64 l)) :
  CallsV P 28 [v] w fun r w' => r = str (dtx n) ∧ Grow w w' [] := by
 refine enterW Tryz.func28 rfl Tryz.ntmps28 rfl ?_
 have hw0 := St.start w
 have hlen := dt0_len _ n (hR.nonneg (by omega)) (Nat.le_refl _)
 have hlen2 := hR.blen
 refine c_seq (c_region (l_assign rfl rfl rfl (l_nil (e_then ?_))))
 refine c_keep [0] (.cons rfl .nil) ?_
 refine c_seq (c_region (l_assign rfl rfl rfl (l_nil (e_then (c_seq ?_)))))
 refine c_block ?_
 refine c_loopk (ι := Int × List Int × Value × List UInt8) (fun (z0 : Int × List Int × Value × List UInt8) => match z0 with | ⟨m, lm, vm, s⟩ => m.toNat) (fun (z0 : Int × List Int × Value × List UInt8) (w' : World) => match z0 with | ⟨m, lm, vm, s⟩ => St w w.heap.size None' ([]) w' ∧ IV w' vm (ints .i64 lm) ∧ R16 lm m ∧ lm.length ≤ 1048576 ∧ 0 ≤ m ∧ m ≤ n ∧ dt0 n.toNat = dt0 m.toNat ++ s) (fun (z0 : Int × List Int × Value × List UInt8) => match z0 with | ⟨m, lm, vm, s⟩ => [(0, vm), (3, str s)]) [] (n, l, v, []) ?_ .nil ?_ ?_
 ·exact ⟨hw0, hv, hR, by omega, hR.nonneg (by omega), Int.le_refl _, by simp⟩
 ·exact (.cons rfl (by first | rfl | (refine congrArg (Value.int _) ?_; omega)) (.cons rfl (by first | rfl | (refine congrArg (Value.int _) ?_; omega)) .nil))
 rintro ⟨m, lm, vm, s⟩ w1 ⟨hw1, hvm, hRm, hLm, hm0, hm1, hdt⟩
 show RunC P _ _ _ (_ :: _) _
 refine c_seq (c_seq (c_region (l_move rfl rfl rfl ?_)))
 refine v_leni rfl rfl Tryz.underlying64 rfl (by first | exact hw1.iarg hv | assumption) ?_
 refine l_gtr rfl rfl rfl rfl ?_
 refine l_nil (e_then ?_)
 refine c_keep [0, 3, 8] (.cons rfl (.cons rfl (.cons rfl .nil))) ?_
 first | refine c_cond rfl (fun hc0 => ?_) (fun hc0 => ?_) | refine c_condb rfl (fun hc0 => ?_) (fun hc0 => ?_)
 ·skip
  refine c_skip (e_then ?_)
  refine c_keep [0, 3] (.cons rfl (.cons rfl .nil)) ?_
  refine c_block (c_seq (c_region ?_))
  have hmp : 0 < m := by
   rcases Int.lt_or_le 0 m with h | h
   ·exact h
   ·have : m = 0 := by omega
    subst this
    have := (hRm.nil_iff (by omega)).2 rfl
    subst this
    simp at hc0
  refine l_move rfl rfl rfl ?_
  refine l_call rfl rfl Tryz.func68 rfl rfl (.cons rfl (.cons rfl .nil)) (smallR vm lm m 10 hRm (by omega) (by omega) w1 hvm) ?_
  rintro _ w2 ⟨vq, ls, rfl, hRq, hG⟩
  have hw2 := hG _ _ _ _ hw1
  try clear hG hw1
  simp only [List.cons_append, List.nil_append] at hw2
  refine l_move rfl rfl rfl (l_extract rfl rfl rfl rfl (l_extract rfl rfl rfl rfl (l_assign rfl rfl rfl (l_assign rfl rfl rfl (l_nil ?_)))))
  refine e_then ?_
  refine c_keep [3, 4, 5] (.cons rfl (.cons rfl (.cons rfl .nil))) ?_
  refine c_seq (c_region (l_move rfl rfl rfl ?_))
  refine l_add rfl rfl rfl rfl (w_i64 (by omega)) ?_
  refine l_conv rfl rfl Tryz.underlying3 Tryz.underlying5 rfl (w_u8 (by omega)) ?_
  refine l_turn (s := 16) (v' := .int .u8 ((dig (m % 10)).toNat : Int)) rfl (by rw [dig_toNat (by omega)]) ?_
  refine v_lit hw2 rfl rfl Tryz.underlying24 ti5 rfl (.cons rfl (by first | rfl | assumption) .nil) rfl rfl rfl (fun b4_3 w3 hw3 => ?_)
  try clear hw2
  refine v_tostr (l := [dig (m % 10)]) rfl rfl Tryz.underlying24 Tryz.underlying5 Tryz.underlying9 rfl (by first | exact hw3.ibl mem0 | exact hw3.io mem1 | exact hw3.iarg hv | assumption) ?_
  refine l_move rfl rfl rfl ?_
  have hsl := congrArg List.length hdt
  rw [List.length_append] at hsl
  refine l_adds rfl rfl rfl rfl (by first | omega | (simp only [List.length_append, List.length_cons, List.length_nil] at *; omega)) ?_
  refine l_assign rfl rfl rfl (l_nil (e_then ?_))
  refine c_keep [3, 4] (.cons rfl (.cons rfl .nil)) ?_
  refine c_region (l_move rfl rfl rfl (l_assign rfl rfl rfl (l_nil ?_)))
  refine e_blk ?_
  have hvq := hw3.io mem1
  have hw4 := St.del (.tail .head) hw3
  try clear hw3
  have hw5 := St.del .head hw4
  try clear hw4
  refine e_againk (i := (m, lm, vm, s)) (m / 10, ls, vq, dig (m % 10) :: s) ?_ ?_ .nil ?_
  ·first | omega | (simp; omega)
  ·have h3 := dt0_pos hmp
   refine ⟨hw5, hvq, hRq, ?_, by omega, by omega, by rw [hdt, h3]; simp⟩
   rcases Nat.lt_or_ge lm.length ls.length with h | h
   ·have := hRm.lt_of_len (show (1 : Int) < 65536 by omega) hRq h
    omega
   ·omega
  ·exact (.cons rfl (by first | rfl | (refine congrArg (Value.int _) ?_; omega)) (.cons rfl (by first | rfl | (refine congrArg (Value.int _) ?_; omega)) .nil))
 ·skip
  refine c_exit ?_
  refine e_then_exit ?_
  refine e_then_exit ?_
  refine e_blk_exit ?_
  refine e_then ?_
  refine c_keep [3] (.cons rfl .nil) ?_
  refine c_seq (c_seq (c_region (l_move rfl rfl rfl ?_)))
  refine l_eqls rfl rfl rfl rfl ?_
  refine l_nil (e_then ?_)
  refine c_keep [3, 23] (.cons rfl (.cons rfl .nil)) ?_
  first | refine c_cond rfl (fun hc1 => ?_) (fun hc1 => ?_) | refine c_condb rfl (fun hc1 => ?_) (fun hc1 => ?_)
  ·skip
   refine c_seq (c_region (l_assign rfl rfl rfl (l_nil (e_then ?_))))
   refine c_keep [2] (.cons rfl .nil) ?_
   refine c_ret ?_
   refine e_then_ret ?_
   refine e_done1 Tryz.results28 rfl ?_
   refine ⟨_, rfl, ?_⟩
   have hm : m = 0 := (hRm.nil_iff (by omega)).1 (List.eq_nil_of_length_eq_zero (by omega))
   subst hm
   rw [hc1, show (0 : Int).toNat = 0 from rfl, dt0_zero] at hdt
   have hn : n = 0 := by
    rcases Int.lt_or_eq_of_le hm1 with h | h
    ·exact absurd hdt (dt0_ne h)
    ·exact h.symm
   exact ⟨by unfold dtx; rw [if_pos hn], hw1.grows⟩
  ·skip
   refine c_skip (e_then ?_)
   refine c_keep [3] (.cons rfl .nil) ?_
   refine c_seq (c_region (l_move rfl rfl rfl (l_assign rfl rfl rfl (l_nil (e_then ?_)))))
   refine c_keep [2] (.cons rfl .nil) ?_
   refine c_ret ?_
   refine e_done1 Tryz.results28 rfl ?_
   refine ⟨_, rfl, ?_⟩
   have hm : m = 0 := (hRm.nil_iff (by omega)).1 (List.eq_nil_of_length_eq_zero (by omega))
   subst hm
   rw [show (0 : Int).toNat = 0 from rfl, dt0_zero, List.nil_append] at hdt
   have hn : n ≠ 0 := fun h => by subst h; rw [show (0 : Int).toNat = 0 from rfl, dt0_zero] at hdt; exact hc1 hdt.symm
   exact ⟨by unfold dtx; rw [if_neg hn, hdt], hw1.grows⟩
end Go.Proofs.YtojjlipcjdaejaaGreatDoor.W
