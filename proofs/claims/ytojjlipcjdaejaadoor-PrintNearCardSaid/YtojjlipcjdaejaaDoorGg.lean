/- walks of the document's bits: shapes, Class, Split, Next, Prev, Cmp -/
import Derived.Test.YtojjlipcjdaejaaDoorVr
import Derived.Test.YtojjlipcjdaejaaDoorGd
import Derived.Test.YtojjlipcjdaejaaDoorGa
import Derived.Test.YtojjlipcjdaejaaDoorFm
set_option linter.unusedVariables false
set_option linter.unusedSimpArgs false
set_option maxRecDepth 10000
namespace Go.Proofs.YtojjlipcjdaejaaDoor.W
open Go.Vc Go.RowKit
def Kd.X : Kd → Int | .f32 => 256 | .f64 => 2048
theorem kd_9 {k : Int} {d : Kd} (h : kd k = some d) : (if k = 9 then (23 : Int) else 52) = (d.M : Int) - 1 ∧ (if k = 9 then (8 : Int) else 11) = (d.A : Int) - d.M ∧ (if k = 9 then (2147483648 : Int) else 9223372036854775808) = d.S ∧ (if k = 9 then (2139095039 : Int) else 9218868437227405311) = d.I - 1 ∧ (if k = 9 then (2143289344 : Int) else 9221120237041090560) = nanS d := by
 rcases kd_some h with ⟨rfl, rfl⟩ | ⟨rfl, rfl⟩ <;> exact ⟨rfl, rfl, rfl, rfl, rfl⟩
theorem quo_tmod {s y : Int} (hs : 0 ≤ s) : s.tmod y = s % y := Int.tmod_eq_emod_of_nonneg hs
theorem sign3 (k : Int) (d : Kd) (hk : kd k = some d) (w : World) :
  CallsV P 33 [.int .i64 k] w fun r w' => r = .int .u64 d.S ∧ w = w' := by
 refine enterW Tryd.func33 rfl Tryd.ntmps33 rfl ?_
 have hbd := d.bd
 have h9 := kd_9 hk
 refine c_seq (c_region (l_assign rfl rfl rfl (l_nil (e_then ?_))))
 refine c_keep [0] (.cons rfl .nil) ?_
 refine c_seq (c_seq (c_region (l_move rfl rfl rfl ?_)))
 refine l_eql rfl rfl rfl rfl ?_
 refine l_nil (e_then ?_)
 refine c_keep [4] (.cons rfl .nil) ?_
 first | refine c_cond rfl (fun hc0 => ?_) (fun hc0 => ?_) | refine c_condb rfl (fun hc0 => ?_) (fun hc0 => ?_)
 ·skip
  refine c_seq (c_region (l_assign rfl rfl rfl (l_nil (e_then ?_))))
  refine c_keep [2] (.cons rfl .nil) ?_
  refine c_ret ?_
  refine e_then_ret ?_
  refine e_done1 Tryd.results33 rfl ?_
  refine ⟨_, rfl, ?_⟩
  exact ⟨by rw [← h9.2.2.1, if_pos hc0], rfl⟩
 ·skip
  refine c_skip (e_then ?_)
  refine c_keep [] .nil ?_
  refine c_seq (c_region (l_assign rfl rfl rfl (l_nil (e_then ?_))))
  refine c_ret ?_
  refine e_done1 Tryd.results33 rfl ?_
  refine ⟨_, rfl, ?_⟩
  exact ⟨by rw [← h9.2.2.1, if_neg hc0], rfl⟩
theorem greatest3 (k : Int) (d : Kd) (hk : kd k = some d) (w : World) :
  CallsV P 32 [.int .i64 k] w fun r w' => r = .int .u64 (d.I - 1) ∧ w = w' := by
 refine enterW Tryd.func32 rfl Tryd.ntmps32 rfl ?_
 have hbd := d.bd
 have h9 := kd_9 hk
 refine c_seq (c_region (l_assign rfl rfl rfl (l_nil (e_then ?_))))
 refine c_keep [0] (.cons rfl .nil) ?_
 refine c_seq (c_seq (c_region (l_move rfl rfl rfl ?_)))
 refine l_eql rfl rfl rfl rfl ?_
 refine l_nil (e_then ?_)
 refine c_keep [4] (.cons rfl .nil) ?_
 first | refine c_cond rfl (fun hc0 => ?_) (fun hc0 => ?_) | refine c_condb rfl (fun hc0 => ?_) (fun hc0 => ?_)
 ·skip
  refine c_seq (c_region (l_assign rfl rfl rfl (l_nil (e_then ?_))))
  refine c_keep [2] (.cons rfl .nil) ?_
  refine c_ret ?_
  refine e_then_ret ?_
  refine e_done1 Tryd.results32 rfl ?_
  refine ⟨_, rfl, ?_⟩
  exact ⟨by rw [← h9.2.2.2.1, if_pos hc0], rfl⟩
 ·skip
  refine c_skip (e_then ?_)
  refine c_keep [] .nil ?_
  refine c_seq (c_region (l_assign rfl rfl rfl (l_nil (e_then ?_))))
  refine c_ret ?_
  refine e_done1 Tryd.results32 rfl ?_
  refine ⟨_, rfl, ?_⟩
  exact ⟨by rw [← h9.2.2.2.1, if_neg hc0], rfl⟩
theorem inf3 (k : Int) (d : Kd) (hk : kd k = some d) (neg : Bool) (w : World) :
  CallsV P 19 [.int .i64 k, .bool neg] w fun r w' => r = .int .u64 (if neg then d.I + d.S else d.I) ∧ w = w' := by
 refine enterW Tryd.func19 rfl Tryd.ntmps19 rfl ?_
 have hbd := d.bd
 have h9 := kd_9 hk
 refine c_seq (c_region (l_assign rfl rfl rfl (l_nil (e_then ?_))))
 refine c_keep [0, 1] (.cons rfl (.cons rfl .nil)) ?_
 refine c_seq (c_region (l_move rfl rfl rfl ?_))
 refine l_callp rfl rfl Tryd.func32 rfl rfl (.cons rfl .nil) (greatest3 k d hk w) ?_
 refine l_add rfl rfl rfl rfl (w_u64 (by omega)) ?_
 refine l_assign rfl rfl rfl (l_nil (e_then ?_))
 refine c_keep [0, 1, 5] (.cons rfl (.cons rfl (.cons rfl .nil))) ?_
 refine c_seq (c_seq (c_region (l_move rfl rfl rfl (l_nil (e_then ?_)))))
 refine c_keep [0, 5, 9] (.cons rfl (.cons rfl (.cons rfl .nil))) ?_
 first | refine c_cond rfl (fun hc0 => ?_) (fun hc0 => ?_) | refine c_condb rfl (fun hc0 => ?_) (fun hc0 => ?_)
 ·skip
  refine c_region (l_move rfl rfl rfl (l_move rfl rfl rfl ?_))
  refine l_callp rfl rfl Tryd.func33 rfl rfl (.cons rfl .nil) (sign3 k d hk w) ?_
  refine l_add rfl rfl rfl rfl (w_u64 (by omega)) ?_
  refine l_assign rfl rfl rfl (l_nil (e_then ?_))
  refine c_keep [5] (.cons rfl .nil) ?_
  refine c_seq (c_region (l_move rfl rfl rfl (l_assign rfl rfl rfl (l_nil (e_then ?_)))))
  refine c_keep [4] (.cons rfl .nil) ?_
  refine c_ret ?_
  refine e_done1 Tryd.results19 rfl ?_
  refine ⟨_, rfl, ?_⟩
  exact ⟨by subst_vars; rw [show d.I - 1 + 1 = d.I by omega]; rfl, rfl⟩
 ·skip
  refine c_skip (e_then ?_)
  refine c_keep [5] (.cons rfl .nil) ?_
  refine c_seq (c_region (l_move rfl rfl rfl (l_assign rfl rfl rfl (l_nil (e_then ?_)))))
  refine c_keep [4] (.cons rfl .nil) ?_
  refine c_ret ?_
  refine e_done1 Tryd.results19 rfl ?_
  refine ⟨_, rfl, ?_⟩
  exact ⟨by rw [show d.I - 1 + 1 = d.I by omega]; simp_all, rfl⟩
theorem blen_mul {x y : Int} (hx0 : 0 ≤ x) (hy0 : 0 ≤ y) {m n : Nat} (hx : Ma.blen x ≤ m) (hy : Ma.blen y ≤ n) : Ma.blen (x * y) ≤ (m + n : Nat) := by
 refine (Ma.blen_le_iff (Int.mul_nonneg hx0 hy0) (m + n)).2 ?_
 have h1 := (Ma.blen_le_iff hx0 m).1 hx
 have h2 := (Ma.blen_le_iff hy0 n).1 hy
 have h3 : x * y ≤ x * 2 ^ n := Int.mul_le_mul_of_nonneg_left (by omega) hx0
 have h4 : (x + 1) * 2 ^ n ≤ 2 ^ m * 2 ^ n := Int.mul_le_mul_of_nonneg_right (by omega) (by omega)
 have hp := Ma.pow_pos (show (0 : Int) < 2 by omega) n
 rw [Int.pow_add]
 rw [Int.add_mul] at h4
 omega
theorem R16.lt16 {l : List Int} {n : Int} (h : R16 l n) : n < 2 ^ (16 * l.length) := by
 have h1 := Ma.vb_lt (show (0 : Int) < 65536 by omega) h.dg
 rw [h.val, show (65536 : Int) = 2 ^ 16 from rfl, ← Int.pow_mul] at h1
 exact h1
theorem R16.len_lt {l : List Int} {n : Int} (h : R16 l n) {k : Nat} (hb : n < 2 ^ k) : 16 * l.length ≤ k + 16 := h.len (k := k) ((Ma.blen_le_iff (h.nonneg (by omega)) k).2 hb)
theorem R16.len_mul {a b c : List Int} {x y : Int} (ha : R16 a x) (hb : R16 b y) (hc : R16 c (x * y)) : c.length ≤ a.length + b.length + 1 := by
 have h0 := hb.nonneg (by omega)
 have h1 : x * y ≤ x * 2 ^ (16 * b.length) := Int.mul_le_mul_of_nonneg_left (Int.le_of_lt hb.lt16) (ha.nonneg (by omega))
 have h2 : x * 2 ^ (16 * b.length) < 2 ^ (16 * a.length) * 2 ^ (16 * b.length) := Int.mul_lt_mul_of_pos_right ha.lt16 (Ma.pow_pos (by omega) _)
 rw [← Int.pow_add] at h2
 have := hc.len_lt (k := 16 * a.length + 16 * b.length) (by omega)
 omega
theorem fv_spl (d : Kd) {b : Int} (hb : 0 ≤ b ∧ b < d.I) : 0 ≤ splE d b + d.l ∧ splE d b ≤ 1000 ∧ 0 ≤ splM d b ∧ splM d b ≤ 9007199254740992 ∧ fv d.H b = splM d b * 2 ^ (splE d b + d.l).toNat ∧ fv d.H (b + 1) = (splM d b + 1) * 2 ^ (splE d b + d.l).toNat := by
 have hbd := d.bd
 have hH53 : d.H ≤ 4503599627370496 := by cases d <;> decide
 have hm : b % d.S = b := Int.emod_eq_of_lt hb.1 (by omega)
 have hq := quo_H d hb.1 hb.2
 have hX : b / d.H - 1 - d.l ≤ 1000 := by
  cases d
  ·have h2 : b < 2139095040 := hb.2
   show b / 8388608 - 1 - 149 ≤ 1000; omega
  ·have h2 : b < 9218868437227405312 := hb.2
   show b / 4503599627370496 - 1 - 1074 ≤ 1000; omega
 have e := Int.emod_add_mul_ediv b d.H
 unfold splE splM
 rw [hm]
 by_cases h : b < d.H
 ·rw [if_pos h, if_pos h, show (-(d.l : Int) + d.l) = 0 by omega]
  have e1 := fv_of hbd.1 0 hb.1 (by omega) (.inl rfl)
  have e2 := fv_of (x := b + 1) hbd.1 0 (by omega) (by omega) (.inl rfl)
  rw [show ((0 : Nat) : Int) * d.H = 0 by simp, Int.add_zero] at e1 e2
  exact ⟨by omega, by omega, hb.1, by omega, e1, e2⟩
 ·rw [if_neg h, if_neg h]
  obtain ⟨u, hu⟩ : ∃ u : Nat, b / d.H = u + 1 := ⟨(b / d.H - 1).toNat, by omega⟩
  have hbu : b = (b % d.H + d.H) + u * d.H := by
   rw [hu, Int.mul_add, Int.mul_comm d.H u] at e; omega
  have e1 := fv_of (x := b % d.H + d.H) hbd.1 u (by omega) (by omega) (.inr (by omega))
  have e2 := fv_of (x := b % d.H + d.H + 1) hbd.1 u (by omega) (by omega) (.inr (by omega))
  rw [← hbu] at e1
  rw [show b % d.H + d.H + 1 + u * d.H = b + 1 by omega] at e2
  rw [show (-(d.l : Int) + (b / d.H - 1) + d.l).toNat = u by omega]
  exact ⟨by omega, by omega, by omega, by omega, e1, e2⟩
theorem near_exact {d : Kd} {N D b : Int} (hD : 0 < D) (hb : 0 ≤ b ∧ b ≤ d.I - 1) (h : fv d.H b * D = N) : RndR d.H (d.I - 1) N D (b, true, 0) := by
 have hbd := d.bd
 have hI := d.I_lt
 have hl := fv_lt hbd.1 hb.1
 have hlD := Int.mul_lt_mul_of_pos_right hl hD
 have hu : ¬ upR d.H N D b := by
  unfold upR
  rw [Int.add_mul]
  omega
 have := RndR.of hbd.1 hD (by omega) hI.2.1 hb.1 (Int.le_of_eq h) (by omega)
 rw [if_neg hu, if_pos (by omega), decide_eq_true h] at this
 exact this
theorem near_up {d : Kd} {N D b : Int} (hD : 0 < D) (hb : 0 ≤ b ∧ b ≤ d.I - 1) (h : fv d.H b * D ≤ N) (h2 : b = d.I - 1 ∨ N < fv d.H (b + 1) * D) (hu : upR d.H N D b) :
  RndR d.H (d.I - 1) N D (if b = d.I - 1 then (0, false, 34) else (b + 1, false, 0)) := by
 have hbd := d.bd
 have hI := d.I_lt
 have hne : ¬ fv d.H b * D = N := by
  intro e
  have hlD := Int.mul_lt_mul_of_pos_right (fv_lt hbd.1 hb.1) hD
  unfold upR at hu
  rw [Int.add_mul] at hu
  omega
 by_cases hg : b = d.I - 1
 ·rw [if_pos hg]
  subst hg
  refine .inl ⟨?_, rfl⟩
  unfold upR at hu
  omega
 ·rw [if_neg hg]
  have := RndR.of hbd.1 hD (by omega) hI.2.1 hb.1 h (h2.resolve_left hg)
  rw [if_pos hu, if_pos (by omega), decide_eq_false hne] at this
  exact this
theorem nv_one (x : Int) : nv [x] = x := by show x + _ * 0 = x; omega
theorem R16.one1 : R16 [1] 1 := ⟨fun x hx => by rw [List.mem_singleton.1 hx]; omega, ⟨fun _ => by omega, trivial⟩, by decide⟩
end Go.Proofs.YtojjlipcjdaejaaDoor.W
