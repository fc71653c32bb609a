/- walks of digit.Eight, digit.Value -/
import Derived.Test.YtjkaahnadaapoaaSa
import Derived.Test.YtjkaahnadaapoaaFf
set_option linter.unusedVariables false
set_option linter.unusedSimpArgs false
set_option maxRecDepth 10000
namespace Go.Proofs.Ytjkaahnadaapoaa.W
open Go.Vc Go.RowKit

theorem and_split (n a b c d : Nat) (ha : a < 2 ^ n) (hc : c < 2 ^ n) : (a + 2 ^ n * b) &&& (c + 2 ^ n * d) = (a &&& c) + 2 ^ n * (b &&& d) := by
  have hp : 0 < 2 ^ n := Nat.pow_pos (by omega)
  have h1 : ((a + 2 ^ n * b) &&& (c + 2 ^ n * d)) % 2 ^ n = a &&& c := by
    rw [Nat.and_mod_two_pow, Nat.add_mul_mod_self_left, Nat.add_mul_mod_self_left, Nat.mod_eq_of_lt ha, Nat.mod_eq_of_lt hc]
  have h2 : ((a + 2 ^ n * b) &&& (c + 2 ^ n * d)) / 2 ^ n = b &&& d := by
    rw [Nat.and_div_two_pow, Nat.add_mul_div_left _ _ hp, Nat.add_mul_div_left _ _ hp, Nat.div_eq_of_lt ha, Nat.div_eq_of_lt hc, Nat.zero_add, Nat.zero_add]
  rw [← h1, ← h2]
  exact (Nat.mod_add_div _ _).symm
theorem and_nat {m q : Int} (hm : 0 ≤ m ∧ m ≤ 18446744073709551615) (hq : 0 ≤ q ∧ q ≤ 18446744073709551615) : bitw .and .u64 m q = ((m.toNat &&& q.toNat : Nat) : Int) := by
  have e : (BitVec.ofInt IntKind.u64.bits m &&& BitVec.ofInt IntKind.u64.bits q).toNat = m.toNat &&& q.toNat := by
    show (BitVec.ofInt 64 m &&& BitVec.ofInt 64 q).toNat = _
    rw [BitVec.toNat_and, toNat_ofInt64 hm, toNat_ofInt64 hq]
  have hle : m.toNat &&& q.toNat ≤ m.toNat := Nat.and_le_left
  show IntKind.u64.wrap _ = _
  rw [e, w_u64 (by omega)]
theorem or_add {a b : Int} {n : Nat} (ha : 0 ≤ a ∧ a < 2 ^ n) (hb : 0 ≤ b) (h : a + b * 2 ^ n ≤ 18446744073709551615) : bitw .or .u64 a (b * 2 ^ n) = a + b * 2 ^ n := by
  have hp := Ma.pow_pos (show (0 : Int) < 2 by omega) n
  have hm0 := Int.mul_nonneg hb (Int.le_of_lt hp)
  obtain ⟨A, rfl⟩ := Int.eq_ofNat_of_zero_le ha.1
  obtain ⟨C, rfl⟩ := Int.eq_ofNat_of_zero_le hb
  have hA : A < 2 ^ n := by exact_mod_cast ha.2
  have e : (BitVec.ofInt IntKind.u64.bits (A : Int) ||| BitVec.ofInt IntKind.u64.bits ((C : Int) * 2 ^ n)).toNat = A + C * 2 ^ n := by
    show (BitVec.ofInt 64 (A : Int) ||| BitVec.ofInt 64 ((C : Int) * 2 ^ n)).toNat = _
    rw [BitVec.toNat_or, toNat_ofInt64 (by omega), toNat_ofInt64 (by omega)]
    have e2 : ((C : Int) * 2 ^ n).toNat = 2 ^ n * C := by
      have : ((C : Int) * 2 ^ n) = ((2 ^ n * C : Nat) : Int) := by rw [Int.natCast_mul, Int.mul_comm]; simp
      rw [this, Int.toNat_natCast]
    rw [e2, Int.toNat_natCast, Nat.or_comm, ← Nat.two_pow_add_eq_or_of_lt hA, Nat.mul_comm]
    omega
  have e3 : ((A + C * 2 ^ n : Nat) : Int) = (A : Int) + (C : Int) * 2 ^ n := by simp
  show IntKind.u64.wrap _ = _
  rw [e, e3, w_u64 (by omega)]
theorem and255 {a : Nat} (h : a < 2 ^ 8) : a &&& 255 = a := by rw [show (255 : Nat) = 2 ^ 8 - 1 from rfl, Nat.and_two_pow_sub_one_eq_mod, Nat.mod_eq_of_lt h]
theorem and65535 {a : Nat} (h : a < 2 ^ 16) : a &&& 65535 = a := by rw [show (65535 : Nat) = 2 ^ 16 - 1 from rfl, Nat.and_two_pow_sub_one_eq_mod, Nat.mod_eq_of_lt h]
theorem mask8 {m : Int} {b0 b1 b2 b3 b4 b5 b6 b7 : Nat} (h0 : b0 < 2 ^ 8) (h1 : b1 < 2 ^ 8) (h2 : b2 < 2 ^ 8) (h3 : b3 < 2 ^ 8) (h4 : b4 < 2 ^ 8) (h5 : b5 < 2 ^ 8) (h6 : b6 < 2 ^ 8) (h7 : b7 < 2 ^ 8)
    (hm : m = ((b0 + 2 ^ 8 * (b1 + 2 ^ 8 * (b2 + 2 ^ 8 * (b3 + 2 ^ 8 * (b4 + 2 ^ 8 * (b5 + 2 ^ 8 * (b6 + 2 ^ 8 * b7)))))) : Nat) : Int)) : bitw .and .u64 m 71777214294589695 = (b0 : Int) + 65536 * b2 + 4294967296 * b4 + 281474976710656 * b6 := by
  rw [and_nat (by omega) (by omega), hm, Int.toNat_natCast, show (71777214294589695 : Int).toNat = 255 + 2 ^ 8 * (0 + 2 ^ 8 * (255 + 2 ^ 8 * (0 + 2 ^ 8 * (255 + 2 ^ 8 * (0 + 2 ^ 8 * (255 + 2 ^ 8 * 0)))))) from rfl]
  rw [and_split 8 _ _ _ _ h0 (by decide), and_split 8 _ _ _ _ h1 (by decide), and_split 8 _ _ _ _ h2 (by decide), and_split 8 _ _ _ _ h3 (by decide), and_split 8 _ _ _ _ h4 (by decide), and_split 8 _ _ _ _ h5 (by decide), and_split 8 _ _ _ _ h6 (by decide),
    and255 h0, and255 h2, and255 h4, and255 h6, Nat.and_zero, Nat.and_zero, Nat.and_zero, Nat.and_zero]
  omega
theorem mask16 {m : Int} {b0 b1 b2 b3 : Nat} (h0 : b0 < 2 ^ 16) (h1 : b1 < 2 ^ 16) (h2 : b2 < 2 ^ 16) (h3 : b3 < 2 ^ 16) (hm : m = ((b0 + 2 ^ 16 * (b1 + 2 ^ 16 * (b2 + 2 ^ 16 * b3)) : Nat) : Int)) :
    bitw .and .u64 m 281470681808895 = (b0 : Int) + 4294967296 * b2 := by
  rw [and_nat (by omega) (by omega), hm, Int.toNat_natCast, show (281470681808895 : Int).toNat = 65535 + 2 ^ 16 * (0 + 2 ^ 16 * (65535 + 2 ^ 16 * 0)) from rfl]
  rw [and_split 16 _ _ _ _ h0 (by decide), and_split 16 _ _ _ _ h1 (by decide), and_split 16 _ _ _ _ h2 (by decide), and65535 h0, and65535 h2, Nat.and_zero, Nat.and_zero]
  omega
/-- the first k digits in a word, the first one lowest -/
def pk (l : L8) : Nat → Int
  | 0 => 0
  | k + 1 => pk l k + (((l.getD k 0).toNat : Int) - 48) * 256 ^ k
theorem pk_bd {l : L8} (h : ∀ j, j < l.length → isD (l.getD j 0)) : ∀ k, k ≤ l.length → 0 ≤ pk l k ∧ pk l k < 256 ^ k
  | 0, _ => by simp [pk]
  | k + 1, hk => by
    have ih := pk_bd h k (by omega)
    have hd := h k (by omega)
    unfold isD at hd
    have hp := Ma.pow_pos (show (0 : Int) < 256 by omega) k
    have h1 := Int.mul_nonneg (show 0 ≤ ((l.getD k 0).toNat : Int) - 48 by omega) (Int.le_of_lt hp)
    have h2 : (((l.getD k 0).toNat : Int) - 48) * 256 ^ k ≤ 9 * 256 ^ k := Int.mul_le_mul_of_nonneg_right (by omega) (Int.le_of_lt hp)
    simp only [pk, Int.pow_succ]
    omega
theorem eight_val : ∀ (m : L8), m.length = 8 → (∀ j, j < m.length → isD (m.getD j 0)) → ∃ d0 d1 d2 d3 d4 d5 d6 d7 : Nat, (d0 ≤ 9 ∧ d1 ≤ 9 ∧ d2 ≤ 9 ∧ d3 ≤ 9 ∧ d4 ≤ 9 ∧ d5 ≤ 9 ∧ d6 ≤ 9 ∧ d7 ≤ 9) ∧
    pk m 8 = (d0 : Int) + 256 * (d1 + 256 * (d2 + 256 * (d3 + 256 * (d4 + 256 * (d5 + 256 * (d6 + 256 * (d7 : Int))))))) ∧ pv m = 10000000 * (d0 : Int) + 1000000 * d1 + 100000 * d2 + 10000 * d3 + 1000 * d4 + 100 * d5 + 10 * d6 + d7
  | [c0, c1, c2, c3, c4, c5, c6, c7], _, h => by
    have h0 := h 0 (by simp)
    have h1 := h 1 (by simp)
    have h2 := h 2 (by simp)
    have h3 := h 3 (by simp)
    have h4 := h 4 (by simp)
    have h5 := h 5 (by simp)
    have h6 := h 6 (by simp)
    have h7 := h 7 (by simp)
    simp only [isD, List.getD_cons_zero, List.getD_cons_succ] at h0 h1 h2 h3 h4 h5 h6 h7
    refine ⟨c0.toNat - 48, c1.toNat - 48, c2.toNat - 48, c3.toNat - 48, c4.toNat - 48, c5.toNat - 48, c6.toNat - 48, c7.toNat - 48, by omega, ?_, ?_⟩
    · simp only [pk, List.getD_cons_zero, List.getD_cons_succ]
      have e : (256 : Int) ^ 0 = 1 ∧ (256 : Int) ^ 1 = 256 ∧ (256 : Int) ^ 2 = 65536 ∧ (256 : Int) ^ 3 = 16777216 ∧ (256 : Int) ^ 4 = 4294967296 ∧ (256 : Int) ^ 5 = 1099511627776 ∧ (256 : Int) ^ 6 = 281474976710656 ∧ (256 : Int) ^ 7 = 72057594037927936 := by decide
      obtain ⟨e0, e1, e2, e3, e4, e5, e6, e7⟩ := e
      rw [e0, e1, e2, e3, e4, e5, e6, e7]
      omega
    · simp only [pv, List.foldl_cons, List.foldl_nil]
      omega
theorem shl8 {m : Int} {k : Nat} (hk : k < 8) (hm : 0 ≤ m ∧ m ≤ 9) : IntKind.u64.wrap (m * 2 ^ (min (8 * (k : Int)).toNat IntKind.u64.bits)) = m * 256 ^ k := by
  have e : (2 : Int) ^ (min (8 * (k : Int)).toNat IntKind.u64.bits) = 256 ^ k := by
    rw [show min (8 * (k : Int)).toNat IntKind.u64.bits = 8 * k from by show min _ 64 = _; omega, Int.pow_mul]
    rfl
  have hp := Ma.pow_pos (show (0 : Int) < 256 by omega) k
  have h7 : (256 : Int) ^ k ≤ 256 ^ 7 := by
    have : (256 : Nat) ^ k ≤ 256 ^ 7 := Nat.pow_le_pow_right (by omega) (by omega)
    exact_mod_cast this
  have e7 : (256 : Int) ^ 7 = 72057594037927936 := by decide
  have h1 := Int.mul_nonneg hm.1 (Int.le_of_lt hp)
  have h2 : m * 256 ^ k ≤ 9 * 256 ^ k := Int.mul_le_mul_of_nonneg_right hm.2 (Int.le_of_lt hp)
  rw [e, w_u64 (by omega)]
theorem take8_at {l : L8} {j : Nat} (h : j < 8) : (l.take 8).getD j 0 = l.getD j 0 := by simp [List.getD, List.getElem?_take, h]
theorem or8 {a m : Int} {k : Nat} (hk : k < 8) (ha : 0 ≤ a ∧ a < 256 ^ k) (hm : 0 ≤ m ∧ m ≤ 9) : bitw .or .u64 a (m * 256 ^ k) = a + m * 256 ^ k := by
  have e : (256 : Int) ^ k = 2 ^ (8 * k) := by rw [Int.pow_mul]; rfl
  have hp := Ma.pow_pos (show (0 : Int) < 256 by omega) k
  have h7 : (256 : Int) ^ k ≤ 256 ^ 7 := by
    have : (256 : Nat) ^ k ≤ 256 ^ 7 := Nat.pow_le_pow_right (by omega) (by omega)
    exact_mod_cast this
  have e7 : (256 : Int) ^ 7 = 72057594037927936 := by decide
  have h2 : m * 256 ^ k ≤ 9 * 256 ^ k := Int.mul_le_mul_of_nonneg_right hm.2 (Int.le_of_lt hp)
  have hf : a + m * 256 ^ k ≤ 18446744073709551615 := by omega
  have ha2 := ha
  rw [e] at ha2 hf ⊢
  exact or_add ha2 hm.1 hf
theorem pv_zeros : ∀ (l : L8), (∀ j, j < l.length → l.getD j 0 = 48) → pv l = 0
  | [], _ => rfl
  | c :: l, h => by
    have e := pv_append [c] l.length l rfl
    have h0 : c = 48 := by simpa using h 0 (by simp)
    have ih := pv_zeros l (fun j hj => by simpa using h (j + 1) (by simp; omega))
    rw [show c :: l = [c] ++ l from rfl, e, ih, h0]
    simp [pv]
theorem join3 {c0 c2 : Nat} (h0 : c0 ≤ 9999) (h2 : c2 ≤ 9999) : (((c0 : Int) + 4294967296 * c2) * 10000 + ((c0 : Int) + 4294967296 * c2) / 4294967296) % 4294967296 = 10000 * c0 + c2 := by
  have e1 : ((c0 : Int) + 4294967296 * c2) / 4294967296 = c2 := by omega
  have e2 : ((c0 : Int) + 4294967296 * c2) * 10000 + c2 = (10000 * c0 + c2) + 4294967296 * (10000 * c2) := by omega
  rw [e1, e2, Int.add_mul_emod_self_left]
  exact Int.emod_eq_of_lt (by omega) (by omega)
theorem take1 {l : L8} (h : 0 < l.length) : pv (l.take 1) = (((l.getD 0 0).toNat : Int) - 48) := by
  match l, h with
  | c :: l, _ => simp [pv]
theorem digs_take {l : L8} (h : ∀ j, j < l.length → isD (l.getD j 0)) (n : Nat) : ∀ j, j < (l.take n).length → isD ((l.take n).getD j 0) := fun j hj => by
  rw [List.length_take] at hj
  have := h j (by omega)
  simpa [List.getD, List.getElem?_take, show j < n by omega] using this
theorem digs_drop {l : L8} (h : ∀ j, j < l.length → isD (l.getD j 0)) (n : Nat) : ∀ j, j < (l.drop n).length → isD ((l.drop n).getD j 0) := fun j hj => by
  rw [List.length_drop] at hj
  have := h (n + j) (by omega)
  simpa [List.getD, List.getElem?_drop] using this

theorem eightD (v : Value) (l : L8) (hd : ∀ j, j < l.length → isD (l.getD j 0)) (hL : l.length ≤ 1099511627776) (w : World) (hv : IB w v l) :
    CallsV P 46 [v] w fun r w' => r = .tuple #[.int .u64 (if l.length < 8 then 0 else pv (l.take 8)), .bool (decide (8 ≤ l.length))] ∧ w = w' := by
  refine enterW Try.func46 rfl Try.ntmps46 rfl ?_
  refine c_seq ?_
  refine c_region ?_
  refine l_assign rfl rfl rfl ?_
  refine l_assign rfl rfl rfl ?_
  refine l_nil ?_
  refine e_then ?_
  refine c_keep [0] (.cons rfl .nil) ?_
  refine c_seq ?_
  refine c_seq ?_
  refine c_region ?_
  refine l_move rfl rfl rfl ?_
  refine v_lenb rfl rfl Try.underlying22 rfl (by first | exact hv | exact h4_1 | assumption) ?_
  refine l_lss rfl rfl rfl rfl ?_
  refine l_nil ?_
  refine e_then ?_
  refine c_keep [0, 9] (.cons rfl (.cons rfl .nil)) ?_
  first | refine c_cond rfl (fun hc0 => ?_) (fun hc0 => ?_) | refine c_condb rfl (fun hc0 => ?_) (fun hc0 => ?_)
  · skip
    refine c_seq ?_
    refine c_region ?_
    refine l_assign rfl rfl rfl ?_
    refine l_assign rfl rfl rfl ?_
    refine l_nil ?_
    refine e_then ?_
    refine c_keep [2, 3] (.cons rfl (.cons rfl .nil)) ?_
    refine c_ret ?_
    refine e_then_ret ?_
    refine e_done2 Try.results46 rfl rfl ?_
    refine ⟨_, rfl, ?_⟩
    exact ⟨by rw [if_pos (by omega), decide_eq_false (by omega)], rfl⟩
  · skip
    refine c_skip ?_
    refine e_then ?_
    refine c_keep [0] (.cons rfl .nil) ?_
    refine c_seq ?_
    refine c_region ?_
    refine l_assign rfl rfl rfl ?_
    refine l_nil ?_
    refine e_then ?_
    refine c_seq ?_
    refine c_seq ?_
    refine c_region ?_
    have hn8 : 8 ≤ l.length := by omega
    refine l_move rfl rfl rfl ?_
    refine v_cut (l := 0) (h := 8) rfl rfl Try.underlying22 tz5 rfl rfl rfl rfl hv (by first | rfl | (simp; done) | (simp; omega)) (by first | rfl | (simp; done) | (simp; omega)) (.inl rfl) (by simp) (by omega) (by first | omega | (simp; omega) | (simp; done)) (fun v4_1 h4_1 ho4_1 => ?_)
    rw [bys_cut, List.drop_zero] at h4_1
    have hl8 : (l.take 8).length = 8 := by rw [List.length_take]; omega
    have hd8 := digs_take hd 8
    refine v_arr rfl rfl Try.underlying101 tz101 rfl (by first | exact hv | exact h4_1 | assumption) (by first | (simp; done) | (simp; omega)) (by decide) rfl ?_
    refine l_move rfl rfl rfl ?_
    refine l_nil ?_
    refine e_then ?_
    refine c_keep [4, 13, 14] (.cons rfl (.cons rfl (.cons rfl .nil))) ?_
    refine c_block ?_
    refine c_loopk (ι := Nat) (fun (k : Nat) => 8 - k) (fun (k : Nat) (w' : World) => w = w' ∧ k ≤ 8) (fun (k : Nat) => [(4, .int .u64 (pk (l.take 8) k)), (14, .int .i64 (k : Int))]) [13] (0) ?_ (.cons rfl .nil) ?_ ?_
    · exact ⟨rfl, by omega⟩
    · exact (.cons rfl (by first | rfl | (refine congrArg (Value.int _) ?_; omega)) (.cons rfl (by first | rfl | (refine congrArg (Value.int _) ?_; omega)) .nil))
    rintro k _ ⟨rfl, hk⟩
    show RunC P _ _ _ (_ :: _) _
    refine c_seq ?_
    refine c_region ?_
    refine l_lss rfl rfl rfl rfl ?_
    refine l_nil ?_
    refine e_then ?_
    refine c_seq ?_
    first | refine c_cond rfl (fun hc1 => ?_) (fun hc1 => ?_) | refine c_condb rfl (fun hc1 => ?_) (fun hc1 => ?_)
    · skip
      refine c_skip ?_
      refine e_then ?_
      refine c_keep [4, 13, 14] (.cons rfl (.cons rfl (.cons rfl .nil))) ?_
      refine c_seq ?_
      refine c_block ?_
      refine c_seq ?_
      refine c_region ?_
      refine l_move rfl rfl rfl ?_
      refine l_elemb (j := k) rfl rfl Try.underlying101 Try.underlying5 tz5 rfl rfl (by omega) (by first | omega | (simp; omega)) (by first | (simp; done) | (simp; omega)) (fun hb6_1 => ?_)
      refine l_assign rfl rfl rfl ?_
      refine l_assign rfl rfl rfl ?_
      refine l_nil ?_
      refine e_then ?_
      refine c_keep [4, 5, 6, 13, 14] (.cons rfl (.cons rfl (.cons rfl (.cons rfl (.cons rfl .nil))))) ?_
      refine c_seq ?_
      refine c_seq ?_
      refine c_region ?_
      refine l_move rfl rfl rfl ?_
      refine l_callp rfl rfl Try.func58 rfl rfl (.cons rfl .nil) (is_digit _ _) ?_
      first | refine l_notd rfl rfl rfl ?_ | refine l_not rfl rfl rfl ?_
      refine l_nil ?_
      refine e_then ?_
      refine c_keep [4, 5, 6, 13, 14, 20] (.cons rfl (.cons rfl (.cons rfl (.cons rfl (.cons rfl (.cons rfl .nil)))))) ?_
      first | refine c_cond rfl (fun hc2 => ?_) (fun hc2 => ?_) | refine c_condb rfl (fun hc2 => ?_) (fun hc2 => ?_)
      · skip
        exact absurd (hd8 k (by omega)) hc2
      · skip
        refine c_skip ?_
        refine e_then ?_
        refine c_keep [4, 5, 6, 13, 14] (.cons rfl (.cons rfl (.cons rfl (.cons rfl (.cons rfl .nil))))) ?_
        refine c_region ?_
        have hk8 : k < 8 := by omega
        have hdk := hd8 k (by omega)
        unfold isD at hdk
        have hpk := pk_bd hd8 k (by omega)
        refine l_move rfl rfl rfl ?_
        refine l_move rfl rfl rfl ?_
        refine l_sub rfl rfl rfl rfl (w_u8 (by omega)) ?_
        refine l_conv rfl rfl Try.underlying5 Try.underlying25 rfl (w_u64 (by omega)) ?_
        refine l_move rfl rfl rfl ?_
        refine l_mul rfl rfl rfl rfl (w_i64 (by omega)) ?_
        refine l_shl rfl rfl rfl rfl (by omega) (shl8 hk8 (by omega)) ?_
        refine l_bits rfl rfl rfl rfl rfl (or8 hk8 hpk (by omega)) ?_
        refine l_assign rfl rfl rfl ?_
        refine l_nil ?_
        refine e_blk ?_
        refine e_then ?_
        refine c_keep [4, 13, 14] (.cons rfl (.cons rfl (.cons rfl .nil))) ?_
        refine c_region ?_
        refine l_add rfl rfl rfl rfl (w_i64 (by omega)) ?_
        refine l_move rfl rfl rfl ?_
        refine l_nil ?_
        refine e_againk (i := (k)) (k + 1) ?_ ?_ (.cons rfl .nil) ?_
        · first | omega | (simp; omega)
        · exact ⟨rfl, by omega⟩
        · exact (.cons rfl (by first | rfl | (refine congrArg (Value.int _) ?_; omega)) (.cons rfl (by first | rfl | (refine congrArg (Value.int _) ?_; omega)) .nil))
    · skip
      refine c_exit ?_
      refine e_then_exit ?_
      refine e_then_exit ?_
      refine e_blk_exit ?_
      refine e_then ?_
      refine c_keep [4] (.cons rfl .nil) ?_
      refine c_seq ?_
      refine c_region ?_
      obtain rfl : k = 8 := by omega
      obtain ⟨d0, d1, d2, d3, d4, d5, d6, d7, ⟨hd0, hd1, hd2, hd3, hd4, hd5, hd6, hd7⟩, hx, hpv⟩ := eight_val (l.take 8) hl8 hd8
      refine l_turn (s := 4) (v' := .int .u64 ((d0 : Int) + 256 * (d1 + 256 * (d2 + 256 * (d3 + 256 * (d4 + 256 * (d5 + 256 * (d6 + 256 * (d7 : Int))))))))) rfl (by rw [hx]) ?_
      refine l_move rfl rfl rfl ?_
      refine l_mul rfl rfl rfl rfl (w_u64 (by omega)) ?_
      refine l_move rfl rfl rfl ?_
      refine l_shr rfl rfl rfl rfl (by omega) (shr_eq (d := 256) (by decide) (by decide)) ?_
      refine l_add rfl rfl rfl rfl (w_u64 (by omega)) ?_
      refine l_bits rfl rfl rfl rfl rfl (mask8 (b0 := (10 * d0 + d1)) (b1 := (10 * d1 + d2)) (b2 := (10 * d2 + d3)) (b3 := (10 * d3 + d4)) (b4 := (10 * d4 + d5)) (b5 := (10 * d5 + d6)) (b6 := (10 * d6 + d7)) (b7 := (10 * d7)) (by omega) (by omega) (by omega) (by omega) (by omega) (by omega) (by omega) (by omega) (by omega)) ?_
      refine l_assign rfl rfl rfl ?_
      refine l_nil ?_
      refine e_then ?_
      refine c_keep [4] (.cons rfl .nil) ?_
      refine c_seq ?_
      refine c_region ?_
      refine l_move rfl rfl rfl ?_
      refine l_mul rfl rfl rfl rfl (w_u64 (by omega)) ?_
      refine l_move rfl rfl rfl ?_
      refine l_shr rfl rfl rfl rfl (by omega) (shr_eq (d := 65536) (by decide) (by decide)) ?_
      refine l_add rfl rfl rfl rfl (w_u64 (by omega)) ?_
      refine l_bits rfl rfl rfl rfl rfl (mask16 (b0 := (100 * (10 * d0 + d1) + (10 * d2 + d3))) (b1 := (100 * (10 * d2 + d3) + (10 * d4 + d5))) (b2 := (100 * (10 * d4 + d5) + (10 * d6 + d7))) (b3 := (100 * (10 * d6 + d7))) (by omega) (by omega) (by omega) (by omega) (by omega)) ?_
      refine l_assign rfl rfl rfl ?_
      refine l_nil ?_
      refine e_then ?_
      refine c_keep [4] (.cons rfl .nil) ?_
      refine c_seq ?_
      refine c_region ?_
      refine l_move rfl rfl rfl ?_
      refine l_mul rfl rfl rfl rfl (w_u64 (by omega)) ?_
      refine l_move rfl rfl rfl ?_
      refine l_shr rfl rfl rfl rfl (by omega) (shr_eq (d := 4294967296) (by decide) (by decide)) ?_
      refine l_add rfl rfl rfl rfl (w_u64 (by omega)) ?_
      refine l_bits rfl rfl rfl rfl rfl (and_mask 32 (d := 4294967296) (by omega) (by omega) (by decide) (by decide)) ?_
      refine l_assign rfl rfl rfl ?_
      refine l_assign rfl rfl rfl ?_
      refine l_nil ?_
      refine e_then ?_
      refine c_keep [2, 3] (.cons rfl (.cons rfl .nil)) ?_
      refine c_ret ?_
      refine e_done2 Try.results46 rfl rfl ?_
      refine ⟨_, rfl, ?_⟩
      refine ⟨?_, rfl⟩
      rw [if_neg (by omega), decide_eq_true hn8, hpv]
      refine congrArg (fun z : Int => Value.tuple #[.int .u64 z, .bool true]) ?_
      rw [join3 (by omega) (by omega)]
      clear hx hpv
      omega
theorem valueD (v : Value) (l : L8) (hd : ∀ j, j < l.length → isD (l.getD j 0)) (h1 : 1 ≤ l.length) (h19 : l.length ≤ 19) (w : World) (hv : IB w v l) :
    CallsV P 28 [v] w fun r w' => r = .tuple #[.int .u64 (pv l), .int .i64 0] ∧ w = w' := by
  refine enterW Try.func28 rfl Try.ntmps28 rfl ?_
  have hrun : run (l.drop 0) = l.length := by rw [List.drop_zero]; exact run_is l l.length hd (Nat.le_refl _) (fun h => absurd h (by omega))
  refine c_seq ?_
  refine c_region ?_
  refine l_assign rfl rfl rfl ?_
  refine l_assign rfl rfl rfl ?_
  refine l_nil ?_
  refine e_then ?_
  refine c_keep [0] (.cons rfl .nil) ?_
  refine c_seq ?_
  refine c_seq ?_
  refine c_region ?_
  refine l_move rfl rfl rfl ?_
  refine v_lenb rfl rfl Try.underlying22 rfl (by first | exact hv | exact hvb | assumption) ?_
  refine l_eql rfl rfl rfl rfl ?_
  refine l_move rfl rfl rfl ?_
  apply l_or 5 [0] rfl rfl (.cons rfl (.cons rfl .nil)) rfl rfl (fun _ => rfl) rfl rfl rfl
  · intro hg1_4
    refine l_move rfl rfl rfl ?_
    refine l_callp rfl rfl Try.func45 rfl rfl (.cons rfl (.cons rfl .nil)) (run_dig v l (by omega) 0 (by omega) w hv) ?_
    refine l_move rfl rfl rfl ?_
    refine v_lenb rfl rfl Try.underlying22 rfl (by first | exact hv | exact hvb | assumption) ?_
    refine l_lss rfl rfl rfl rfl ?_
    refine l_nil ?_
    exact e_stays rfl (.cons rfl (congrArg Value.bool (decide_eq_false hg1_4).symm) (.cons rfl rfl .nil))
  refine l_nil ?_
  refine e_then ?_
  refine c_keep [0, 17] (.cons rfl (.cons rfl .nil)) ?_
  first | refine c_cond rfl (fun hc0 => ?_) (fun hc0 => ?_) | refine c_condb rfl (fun hc0 => ?_) (fun hc0 => ?_)
  · skip
    omega
  · skip
    refine c_skip ?_
    refine e_then ?_
    refine c_keep [0] (.cons rfl .nil) ?_
    refine c_seq ?_
    refine c_block ?_
    refine c_loopk (ι := Value × Nat) (fun (z0 : Value × Nat) => match z0 with | ⟨vb, z⟩ => l.length - z) (fun (z0 : Value × Nat) (w' : World) => match z0 with | ⟨vb, z⟩ => w = w' ∧ IV w vb (bys (l.drop z)) ∧ z ≤ l.length ∧ ∀ j, j < z → l.getD j 0 = 48) (fun (z0 : Value × Nat) => match z0 with | ⟨vb, z⟩ => [(0, vb)]) [] (v, 0) ?_ .nil ?_ ?_
    · exact ⟨rfl, hv, by omega, fun j hj => by omega⟩
    · exact (.cons rfl (by first | rfl | (refine congrArg (Value.int _) ?_; omega)) .nil)
    rintro ⟨vb, z⟩ _ ⟨rfl, hvb, hz, hzs⟩
    show RunC P _ _ _ (_ :: _) _
    have hlz : (l.drop z).length = l.length - z := List.length_drop
    refine c_seq ?_
    refine c_seq ?_
    refine c_region ?_
    refine l_move rfl rfl rfl ?_
    refine v_lenb rfl rfl Try.underlying22 rfl (by first | exact hv | exact hvb | assumption) ?_
    refine l_gtr rfl rfl rfl rfl ?_
    refine l_move rfl rfl rfl ?_
    apply l_and 4 [0] rfl rfl (.cons rfl (.cons rfl .nil)) rfl rfl (fun _ => rfl) rfl rfl rfl
    · intro hg3_4
      refine l_move rfl rfl rfl ?_
      refine v_getbr (j := 0) rfl rfl rfl rfl Try.underlying22 tz5 Try.underlying5 rfl rfl (by first | exact hv | exact hvb | assumption) rfl (by omega) (by omega) (fun hb3_5 => ?_)
      refine l_eql rfl rfl rfl rfl ?_
      refine l_nil ?_
      exact e_stays rfl (.cons rfl (congrArg Value.bool (decide_eq_true hg3_4).symm) (.cons rfl rfl .nil))
    refine l_nil ?_
    refine e_then ?_
    refine c_keep [0, 26] (.cons rfl (.cons rfl .nil)) ?_
    first | refine c_cond rfl (fun hc1 => ?_) (fun hc1 => ?_) | refine c_condb rfl (fun hc1 => ?_) (fun hc1 => ?_)
    · skip
      refine c_skip ?_
      refine e_then ?_
      refine c_keep [0] (.cons rfl .nil) ?_
      refine c_block ?_
      refine c_region ?_
      refine l_move rfl rfl rfl ?_
      refine v_cut (l := 1) (h := (l.drop z).length) rfl rfl Try.underlying22 tz5 rfl rfl rfl rfl hvb (by first | rfl | (simp; done) | (simp; omega)) (by first | rfl | (simp; done) | (simp; omega)) (.inl rfl) (by simp) (by omega) (by first | omega | (simp; omega) | (simp; done)) (fun v4_1 h4_1 ho4_1 => ?_)
      rw [bys_cut, List.take_length, List.drop_drop] at h4_1
      refine l_assign rfl rfl rfl ?_
      refine l_nil ?_
      refine e_blk ?_
      refine e_againk (i := (vb, z)) (v4_1, z + 1) ?_ ?_ .nil ?_
      · first | omega | (simp; omega)
      · refine ⟨rfl, h4_1, by omega, fun j hj => ?_⟩
        rcases Nat.lt_or_ge j z with h | h
        · exact hzs j h
        · obtain rfl : j = z := by omega
          have := hc1.2
          rw [getD_drop] at this
          exact u8_eq.1 this
      · exact (.cons rfl (by first | rfl | (refine congrArg (Value.int _) ?_; omega)) .nil)
    · skip
      refine c_exit ?_
      refine e_then_exit ?_
      refine e_then_exit ?_
      refine e_blk_exit ?_
      refine e_then ?_
      refine c_keep [0] (.cons rfl .nil) ?_
      refine c_seq ?_
      refine c_seq ?_
      refine c_region ?_
      refine l_move rfl rfl rfl ?_
      refine v_lenb rfl rfl Try.underlying22 rfl (by first | exact hv | exact hvb | assumption) ?_
      refine l_gtr rfl rfl rfl rfl ?_
      refine l_nil ?_
      refine e_then ?_
      refine c_keep [0, 31] (.cons rfl (.cons rfl .nil)) ?_
      first | refine c_cond rfl (fun hc2 => ?_) (fun hc2 => ?_) | refine c_condb rfl (fun hc2 => ?_) (fun hc2 => ?_)
      · skip
        simp only [List.length_drop] at hc2
        omega
      · skip
        refine c_skip ?_
        refine e_then ?_
        refine c_keep [0] (.cons rfl .nil) ?_
        refine c_seq ?_
        refine c_region ?_
        refine l_assign rfl rfl rfl ?_
        refine l_nil ?_
        refine e_then ?_
        refine c_seq ?_
        refine c_block ?_
        refine c_loopk (ι := Value × Nat × Int) (fun (z0 : Value × Nat × Int) => match z0 with | ⟨vb, y, x⟩ => l.length - y) (fun (z0 : Value × Nat × Int) (w' : World) => match z0 with | ⟨vb, y, x⟩ => w = w' ∧ IV w vb (bys (l.drop y)) ∧ y ≤ l.length ∧ x = pv (l.take y)) (fun (z0 : Value × Nat × Int) => match z0 with | ⟨vb, y, x⟩ => [(0, vb), (4, .int .u64 x)]) [] (vb, z, 0) ?_ .nil ?_ ?_
        · exact ⟨rfl, hvb, by omega, (pv_zeros _ (fun j hj => by rw [List.length_take] at hj; have := hzs j (by omega); simpa [List.getD, List.getElem?_take, show j < z by omega] using this)).symm⟩
        · exact (.cons rfl (by first | rfl | (refine congrArg (Value.int _) ?_; omega)) (.cons rfl (by first | rfl | (refine congrArg (Value.int _) ?_; omega)) .nil))
        rintro ⟨vb, y, x⟩ _ ⟨rfl, hvb, hy, hx⟩
        show RunC P _ _ _ (_ :: _) _
        have hly : (l.drop y).length = l.length - y := List.length_drop
        have hxb := pv_bounds (l.take y).length (l.take y) rfl (isD_mem (digs_take hd y))
        rw [List.length_take, Nat.min_eq_left hy, ← hx] at hxb
        refine c_seq ?_
        refine c_seq ?_
        refine c_region ?_
        refine l_move rfl rfl rfl ?_
        refine v_lenb rfl rfl Try.underlying22 rfl (by first | exact hv | exact hvb | assumption) ?_
        refine l_gtr rfl rfl rfl rfl ?_
        refine l_nil ?_
        refine e_then ?_
        refine c_keep [0, 4, 34] (.cons rfl (.cons rfl (.cons rfl .nil))) ?_
        first | refine c_cond rfl (fun hc3 => ?_) (fun hc3 => ?_) | refine c_condb rfl (fun hc3 => ?_) (fun hc3 => ?_)
        · skip
          refine c_skip ?_
          refine e_then ?_
          refine c_keep [0, 4] (.cons rfl (.cons rfl .nil)) ?_
          refine c_block ?_
          refine c_seq ?_
          refine c_seq ?_
          refine c_region ?_
          refine l_move rfl rfl rfl ?_
          refine l_callp rfl rfl Try.func46 rfl rfl (.cons rfl .nil) (eightD vb (l.drop y) (digs_drop hd y) (by rw [List.length_drop]; omega) w hvb) ?_
          refine l_move rfl rfl rfl ?_
          refine l_extract rfl rfl rfl rfl ?_
          refine l_extract rfl rfl rfl rfl ?_
          refine l_assign rfl rfl rfl ?_
          refine l_assign rfl rfl rfl ?_
          refine l_nil ?_
          refine e_then ?_
          refine c_keep [0, 4, 5, 6] (.cons rfl (.cons rfl (.cons rfl (.cons rfl .nil)))) ?_
          refine c_seq ?_
          refine c_region ?_
          refine l_move rfl rfl rfl ?_
          refine l_move rfl rfl rfl ?_
          apply l_and 2 [0, 4, 5] rfl rfl (.cons rfl (.cons rfl (.cons rfl (.cons rfl .nil)))) rfl rfl (fun _ => rfl) rfl rfl rfl
          · intro hg10_2
            refine l_move rfl rfl rfl ?_
            refine l_lss rfl rfl rfl rfl ?_
            refine l_nil ?_
            exact e_stays rfl (.cons rfl (congrArg Value.bool (decide_eq_true hg10_2).symm) (.cons rfl rfl (.cons rfl rfl (.cons rfl rfl .nil))))
          refine l_nil ?_
          refine e_then ?_
          refine c_keep [0, 4, 5, 44] (.cons rfl (.cons rfl (.cons rfl (.cons rfl .nil)))) ?_
          first | refine c_cond rfl (fun hc4 => ?_) (fun hc4 => ?_) | refine c_condb rfl (fun hc4 => ?_) (fun hc4 => ?_)
          · skip
            refine c_seq ?_
            refine c_region ?_
            have hif : (if (l.drop y).length < 8 then (0 : Int) else pv ((l.drop y).take 8)) = pv ((l.drop y).take 8) := if_neg (by omega)
            refine l_turn (s := 5) (v' := .int .u64 (pv ((l.drop y).take 8))) rfl (by rw [hif]; rfl) ?_
            have hp8 := pv_bounds 8 ((l.drop y).take 8) (by rw [List.length_take]; omega) (isD_mem (digs_take (digs_drop hd y) 8))
            have e8 : (10 : Int) ^ 8 = 100000000 := by decide
            rw [e8] at hp8
            refine l_move rfl rfl rfl ?_
            refine l_mul rfl rfl rfl rfl (w_u64 (by omega)) ?_
            refine l_move rfl rfl rfl ?_
            refine l_add rfl rfl rfl rfl (w_u64 (by omega)) ?_
            refine l_assign rfl rfl rfl ?_
            refine l_nil ?_
            refine e_then ?_
            refine c_keep [0, 4] (.cons rfl (.cons rfl .nil)) ?_
            refine c_seq ?_
            refine c_region ?_
            refine l_move rfl rfl rfl ?_
            refine v_cut (l := 8) (h := (l.drop y).length) rfl rfl Try.underlying22 tz5 rfl rfl rfl rfl hvb (by first | rfl | (simp; done) | (simp; omega)) (by first | rfl | (simp; done) | (simp; omega)) (.inl rfl) (by simp) (by omega) (by first | omega | (simp; omega) | (simp; done)) (fun v12_1 h12_1 ho12_1 => ?_)
            rw [bys_cut, List.take_length, List.drop_drop] at h12_1
            refine l_assign rfl rfl rfl ?_
            refine l_nil ?_
            refine e_then ?_
            refine c_keep [0, 4] (.cons rfl (.cons rfl .nil)) ?_
            refine c_exit ?_
            refine e_then_exit ?_
            refine e_blk_exit ?_
            refine e_againk (i := (vb, y, x)) (v12_1, y + 8, x * 100000000 + pv ((l.drop y).take 8)) ?_ ?_ .nil ?_
            · first | omega | (simp; omega)
            · refine ⟨rfl, h12_1, by omega, ?_⟩
              rw [pv_split l y hy 8 (by omega), hx]
              rfl
            · exact (.cons rfl (by first | rfl | (refine congrArg (Value.int _) ?_; omega)) (.cons rfl (by first | rfl | (refine congrArg (Value.int _) ?_; omega)) .nil))
          · skip
            refine c_skip ?_
            refine e_then ?_
            refine c_keep [0, 4] (.cons rfl (.cons rfl .nil)) ?_
            refine c_seq ?_
            refine c_region ?_
            have hdy := digs_drop hd y 0 (by omega)
            unfold isD at hdy
            have hx18 : x < 1000000000000000000 := by
              have h18 : (10 : Int) ^ y ≤ 10 ^ 18 := by
                have : (10 : Nat) ^ y ≤ 10 ^ 18 := Nat.pow_le_pow_right (by omega) (by omega)
                exact_mod_cast this
              have e18 : (10 : Int) ^ 18 = 1000000000000000000 := by decide
              omega
            refine l_move rfl rfl rfl ?_
            refine v_getbr (j := 0) rfl rfl rfl rfl Try.underlying22 tz5 Try.underlying5 rfl rfl (by first | exact hv | exact hvb | assumption) rfl (by omega) (by omega) (fun hb13_1 => ?_)
            refine l_sub rfl rfl rfl rfl (w_u8 (by omega)) ?_
            refine l_conv rfl rfl Try.underlying5 Try.underlying25 rfl (w_u64 (by omega)) ?_
            refine l_assign rfl rfl rfl ?_
            refine l_nil ?_
            refine e_then ?_
            refine c_keep [0, 4, 7] (.cons rfl (.cons rfl (.cons rfl .nil))) ?_
            refine c_seq ?_
            refine c_seq ?_
            refine c_region ?_
            refine l_move rfl rfl rfl ?_
            refine l_move rfl rfl rfl ?_
            refine l_sub rfl rfl rfl rfl (w_u64 (by omega)) ?_
            refine l_quo rfl rfl rfl rfl (by omega) (q_u64 (by omega)) ?_
            refine l_gtr rfl rfl rfl rfl ?_
            refine l_nil ?_
            refine e_then ?_
            refine c_keep [0, 4, 7, 60] (.cons rfl (.cons rfl (.cons rfl (.cons rfl .nil)))) ?_
            first | refine c_cond rfl (fun hc5 => ?_) (fun hc5 => ?_) | refine c_condb rfl (fun hc5 => ?_) (fun hc5 => ?_)
            · skip
              omega
            · skip
              refine c_skip ?_
              refine e_then ?_
              refine c_keep [0, 4, 7] (.cons rfl (.cons rfl (.cons rfl .nil))) ?_
              refine c_seq ?_
              refine c_region ?_
              refine l_move rfl rfl rfl ?_
              refine l_mul rfl rfl rfl rfl (w_u64 (by omega)) ?_
              refine l_move rfl rfl rfl ?_
              refine l_add rfl rfl rfl rfl (w_u64 (by omega)) ?_
              refine l_assign rfl rfl rfl ?_
              refine l_nil ?_
              refine e_then ?_
              refine c_keep [0, 4] (.cons rfl (.cons rfl .nil)) ?_
              refine c_region ?_
              refine l_move rfl rfl rfl ?_
              refine v_cut (l := 1) (h := (l.drop y).length) rfl rfl Try.underlying22 tz5 rfl rfl rfl rfl hvb (by first | rfl | (simp; done) | (simp; omega)) (by first | rfl | (simp; done) | (simp; omega)) (.inl rfl) (by simp) (by omega) (by first | omega | (simp; omega) | (simp; done)) (fun v17_1 h17_1 ho17_1 => ?_)
              rw [bys_cut, List.take_length, List.drop_drop] at h17_1
              refine l_assign rfl rfl rfl ?_
              refine l_nil ?_
              refine e_blk ?_
              refine e_againk (i := (vb, y, x)) (v17_1, y + 1, 10 * x + (((l.drop y).getD 0 0).toNat - 48)) ?_ ?_ .nil ?_
              · first | omega | (simp; omega)
              · refine ⟨rfl, h17_1, by omega, ?_⟩
                rw [pv_split l y hy 1 (by omega), ← hx, take1 (by omega)]
                show _ = x * 10 + (((l.drop y).getD 0 0).toNat - 48 : Int)
                omega
              · exact (.cons rfl (by first | rfl | (refine congrArg (Value.int _) ?_; omega)) (.cons rfl (by first | rfl | (refine congrArg (Value.int _) ?_; omega)) .nil))
        · skip
          refine c_exit ?_
          refine e_then_exit ?_
          refine e_then_exit ?_
          refine e_blk_exit ?_
          refine e_then ?_
          refine c_keep [4] (.cons rfl .nil) ?_
          refine c_seq ?_
          refine c_region ?_
          refine l_move rfl rfl rfl ?_
          refine l_assign rfl rfl rfl ?_
          refine l_assign rfl rfl rfl ?_
          refine l_nil ?_
          refine e_then ?_
          refine c_keep [2, 3] (.cons rfl (.cons rfl .nil)) ?_
          refine c_ret ?_
          refine e_done2 Try.results28 rfl rfl ?_
          refine ⟨_, rfl, ?_⟩
          refine ⟨?_, rfl⟩
          obtain rfl : y = l.length := by omega
          rw [hx, List.take_length]
end Go.Proofs.Ytjkaahnadaapoaa.W
