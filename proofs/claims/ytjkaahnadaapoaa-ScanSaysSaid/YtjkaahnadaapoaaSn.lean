/- walks of mintagelaw08.digits, exponent, Number.text, ScanForms -/
import Derived.Test.YtjkaahnadaapoaaSm
import Derived.Test.YtjkaahnadaapoaaLa
set_option linter.unusedVariables false
set_option linter.unusedSimpArgs false
set_option maxRecDepth 10000
namespace Go.Proofs.Ytjkaahnadaapoaa.W
open Go.Vc Go.RowKit

theorem dg8 (c : UInt8) : 48 + (c.toNat : Int) % 10 = ((48 + c % 10 : UInt8).toNat : Int) := by
  have key : ∀ c : UInt8, 48 + c.toNat % 10 = (48 + c % 10 : UInt8).toNat := all8 (by decide +kernel)
  have := key c
  omega
theorem dgs_snoc {l : L8} {k : Nat} (h : k < l.length) : ((l.take k).map fun c => 48 + c % 10) ++ [48 + l.getD k 0 % 10] = (l.take (k + 1)).map fun c => 48 + c % 10 := by
  have e : l.getD k 0 = l[k] := by simp [List.getD, h]
  rw [List.take_succ_eq_append_getElem h, e, List.map_append]
  rfl
theorem dt0_lt : ∀ (k n : Nat), n < 10 ^ k → (dt0 n).length ≤ k
  | 0, n, h => by
    obtain rfl : n = 0 := by simpa using h
    rw [dt0_zero]; simp
  | k + 1, n, h => by
    by_cases h0 : n = 0
    · rw [h0, dt0_zero]; simp
    · rw [dt0, dif_neg h0, List.length_append]
      have := dt0_lt k (n / 10) (by rw [Nat.pow_succ] at h; omega)
      simp only [List.length_singleton]
      omega
theorem dtx_lt {n : Int} (h : 0 ≤ n ∧ n < 100000) : (dtx n).length ≤ 5 := by
  unfold dtx
  split
  · simp
  · exact dt0_lt 5 n.toNat (by omega)
theorem exT_len7 {x : Int} (h : -30000 < x ∧ x < 30000) (g p : Bool) : (exT x g p).length ≤ 7 := by
  unfold exT
  by_cases hx : x < 0
  · have := dtx_lt (n := 0 - x) (by omega)
    rw [if_pos hx, List.length_append, List.length_append]
    cases g <;> simp only [List.length_singleton, if_true, if_false, Bool.false_eq_true] <;> omega
  · have := dtx_lt (n := x) (by omega)
    rw [if_neg hx, List.length_append, List.length_append]
    cases g <;> cases p <;> simp only [List.length_singleton, List.length_nil, if_true, if_false, Bool.false_eq_true] <;> omega
theorem ptT_len (b : L8) (p : Bool) : (ptT b p).length ≤ 41 := by
  have := dgs_len b
  unfold ptT
  split
  · simp; omega
  · simp
theorem sgT_len (n p : Bool) : (sgT n p).length ≤ 1 := by cases n <;> cases p <;> simp [sgT]
/-- what stands behind the sign -/
def body (w b : L8) (x : Int) (point plus great : Bool) : L8 := whl w b ++ ptT b point ++ (if x = 0 then [] else exT x great plus)
theorem body_len (w b : L8) {x : Int} (h : -30000 < x ∧ x < 30000) (point plus great : Bool) : (body w b x point plus great).length ≤ 88 := by
  have h1 := whl_len w b
  have h2 := ptT_len b point
  have h3 := exT_len7 h great plus
  unfold body
  rw [List.length_append, List.length_append]
  split
  · simp; omega
  · omega
theorem txT_eq (w b : L8) (x : Int) (neg point plus great : Bool) : txT w b x neg point plus great = sgT neg plus ++ body w b x point plus great := by
  unfold txT body
  simp only [List.append_assoc]
theorem body_form (w b : L8) {x : Int} (h : -30000 < x ∧ x < 30000) {z : L8} {neg : Bool} (hz : Sgn z neg) (k : Nat) (point plus great : Bool) : Form (z ++ (List.replicate k 48 ++ body w b x point plus great)) neg (List.replicate k 48 ++ whl w b) (dgs b) x := by
  have := tx_form w b h z hz k point plus great
  unfold body
  simpa only [List.append_assoc] using this
theorem body_form0 (w b : L8) {x : Int} (h : -30000 < x ∧ x < 30000) {z : L8} {neg : Bool} (hz : Sgn z neg) (point plus great : Bool) : Form (z ++ body w b x point plus great) neg (whl w b) (dgs b) x := by
  have := body_form w b h hz 0 point plus great
  simpa only [List.replicate_zero, List.nil_append] using this
theorem numG_0 {neg : Bool} {L : L8} {fl : Nat} {x : Int} {a : Bool} {b c d : Int} {e : Bool} {f g : Int} (h : (a, b, c, d, e, f, g) = numG neg L fl x) : b = 0 ∧ f = 0 ∧ g = 0 ∧ a = neg := by
  unfold numG at h
  split at h <;> (simp only [Prod.mk.injEq] at h; obtain ⟨rfl, rfl, _, _, _, rfl, rfl⟩ := h; exact ⟨rfl, rfl, rfl, rfl⟩)
theorem tup7 {a a' e e' : Bool} {b c d f g b' c' d' f' g' : Int} (h : (a, b, c, d, e, f, g) = (a', b', c', d', e', f', g')) : a = a' ∧ b = b' ∧ c = c' ∧ d = d' ∧ e = e' ∧ f = f' ∧ g = g' := by simpa only [Prod.mk.injEq] using h

theorem digits8 (v : Value) (l : L8) (w : World) (hv : IB w v l) :
    CallsV P 34 [v] w fun r w' => r = str (dgs l) ∧ Grow w w' [] := by
  refine enterW Try.func34 rfl Try.ntmps34 rfl ?_
  have hw0 := St.start w
  refine c_seq ?_
  refine c_region ?_
  refine l_assign rfl rfl rfl ?_
  refine l_nil ?_
  refine e_then ?_
  refine c_keep [0] (.cons rfl .nil) ?_
  refine c_seq ?_
  refine c_region ?_
  refine l_assign rfl rfl rfl ?_
  refine l_nil ?_
  refine e_then ?_
  refine c_seq ?_
  refine c_seq ?_
  refine c_region ?_
  refine l_assign rfl rfl rfl ?_
  refine l_nil ?_
  refine e_then ?_
  refine c_block ?_
  refine c_loopk (ι := Nat) (fun (k : Nat) => l.length - k) (fun (k : Nat) (w' : World) => St w w.heap.size None' ([]) w' ∧ k ≤ l.length ∧ k ≤ 40) (fun (k : Nat) => [(3, str ((l.take k).map fun c => 48 + c % 10)), (4, .int .i64 (k : Int))]) [0] (0) ?_ (.cons rfl .nil) ?_ ?_
  · exact ⟨hw0, by omega, by omega⟩
  · exact (.cons rfl (by first | rfl | (refine congrArg (Value.int _) ?_; omega)) (.cons rfl (by first | rfl | (refine congrArg (Value.int _) ?_; omega)) .nil))
  rintro k w1 ⟨hw1, hk, hk4⟩
  show RunC P _ _ _ (_ :: _) _
  refine c_seq ?_
  refine c_seq ?_
  refine c_region ?_
  refine l_move rfl rfl rfl ?_
  refine l_move rfl rfl rfl ?_
  refine v_lenb rfl rfl Try.underlying22 rfl (by first | exact hw1.iarg hv | assumption) ?_
  refine l_lss rfl rfl rfl rfl ?_
  refine l_move rfl rfl rfl ?_
  apply l_and 2 [0, 3, 4] rfl rfl (.cons rfl (.cons rfl (.cons rfl (.cons rfl .nil)))) rfl rfl (fun _ => rfl) rfl rfl rfl
  · intro hg3_5
    refine l_move rfl rfl rfl ?_
    refine l_lss rfl rfl rfl rfl ?_
    refine l_nil ?_
    exact e_stays rfl (.cons rfl (congrArg Value.bool (decide_eq_true hg3_5).symm) (.cons rfl rfl (.cons rfl rfl (.cons rfl rfl .nil))))
  refine l_nil ?_
  refine e_then ?_
  refine c_keep [0, 3, 4, 12] (.cons rfl (.cons rfl (.cons rfl (.cons rfl .nil)))) ?_
  first | refine c_cond rfl (fun hc0 => ?_) (fun hc0 => ?_) | refine c_condb rfl (fun hc0 => ?_) (fun hc0 => ?_)
  · skip
    refine c_skip ?_
    refine e_then ?_
    refine c_keep [0, 3, 4] (.cons rfl (.cons rfl (.cons rfl .nil))) ?_
    refine c_seq ?_
    refine c_block ?_
    refine c_region ?_
    refine l_move rfl rfl rfl ?_
    refine l_move rfl rfl rfl ?_
    refine l_move rfl rfl rfl ?_
    refine v_getbr (j := k) rfl rfl rfl rfl Try.underlying22 tz5 Try.underlying5 rfl rfl (by first | exact hw1.iarg hv | assumption) rfl (by omega) (by omega) (fun hb5_3 => ?_)
    refine l_rem rfl rfl rfl rfl (by omega) (r_pos (by omega)) ?_
    refine l_add rfl rfl rfl rfl (w_u8 (by omega)) ?_
    refine l_turn (s := 21) (v' := .int .u8 ((48 + l.getD k 0 % 10 : UInt8).toNat : Int)) rfl (by rw [dg8]) ?_
    refine v_lit hw1 rfl rfl Try.underlying22 ti5 rfl (.cons rfl (by first | rfl | assumption) .nil) rfl rfl rfl (fun b5_7 w2 hw2 => ?_)
    try clear hw1
    refine v_tostr (l := [48 + l.getD k 0 % 10]) rfl rfl Try.underlying22 Try.underlying5 Try.underlying9 rfl (by first | exact hw2.ibl mem0 | exact hw2.iarg hv | assumption) ?_
    have hlk : ((l.take k).map fun c => 48 + c % 10).length ≤ 40 := by simp only [List.length_map, List.length_take]; omega
    refine l_adds rfl rfl rfl rfl (by first | omega | (simp only [List.length_append, List.length_cons, List.length_nil] at *; omega)) ?_
    refine l_assign rfl rfl rfl ?_
    refine l_nil ?_
    refine e_blk ?_
    refine e_then ?_
    refine c_keep [0, 3, 4] (.cons rfl (.cons rfl (.cons rfl .nil))) ?_
    refine c_region ?_
    refine l_move rfl rfl rfl ?_
    refine l_add rfl rfl rfl rfl (w_i64 (by omega)) ?_
    refine l_assign rfl rfl rfl ?_
    refine l_nil ?_
    have hw3 := St.del .head hw2
    try clear hw2
    refine e_againk (i := (k)) (k + 1) ?_ ?_ (.cons rfl .nil) ?_
    · first | omega | (simp; omega)
    · exact ⟨hw3, by omega, by omega⟩
    · exact (.cons rfl (by rw [dgs_snoc (by omega)]) (.cons rfl (by first | rfl | (refine congrArg (Value.int _) ?_; omega)) .nil))
  · skip
    refine c_exit ?_
    refine e_then_exit ?_
    refine e_then_exit ?_
    refine e_blk_exit ?_
    refine e_then ?_
    refine c_keep [3] (.cons rfl .nil) ?_
    refine c_seq ?_
    refine c_region ?_
    refine l_move rfl rfl rfl ?_
    refine l_assign rfl rfl rfl ?_
    refine l_nil ?_
    refine e_then ?_
    refine c_keep [2] (.cons rfl .nil) ?_
    refine c_ret ?_
    refine e_done1 Try.results34 rfl ?_
    refine ⟨_, rfl, ?_⟩
    have ht : l.take k = l.take 40 := by
      by_cases h : k = 40
      · rw [h]
      · rw [List.take_of_length_le (by omega), List.take_of_length_le (by omega)]
    exact ⟨by unfold dgs; rw [ht], hw1.grows⟩
theorem exponent8 (x : Int) (great plus : Bool) (hx : -30000 < x ∧ x < 30000) (w : World) :
    CallsV P 35 [.int .i64 x, .bool great, .bool plus] w fun r w' => r = str (exT x great plus) ∧ Grow w w' [] := by
  refine enterW Try.func35 rfl Try.ntmps35 rfl ?_
  have hw0 := St.start w
  refine c_seq ?_
  refine c_region ?_
  refine l_assign rfl rfl rfl ?_
  refine l_nil ?_
  refine e_then ?_
  refine c_keep [0, 1, 2] (.cons rfl (.cons rfl (.cons rfl .nil))) ?_
  refine c_seq ?_
  refine c_region ?_
  refine l_assign rfl rfl rfl ?_
  refine l_nil ?_
  refine e_then ?_
  refine c_cutk (ι := L8) (fun (e0 : L8) (w' : World) => St w w.heap.size None' ([]) w' ∧ e0 = if great = true then [69] else [101]) (fun (e0 : L8) => [(7, str e0)]) [0, 2] (.cons rfl (.cons rfl .nil)) ?_ ?_
  · skip
    refine c_seq ?_
    refine c_region ?_
    refine l_move rfl rfl rfl ?_
    refine l_nil ?_
    refine e_then ?_
    refine c_keep [0, 2, 7, 8] (.cons rfl (.cons rfl (.cons rfl (.cons rfl .nil)))) ?_
    first | refine c_cond rfl (fun hc0 => ?_) (fun hc0 => ?_) | refine c_condb rfl (fun hc0 => ?_) (fun hc0 => ?_)
    · skip
      refine c_region ?_
      refine l_assign rfl rfl rfl ?_
      refine l_nil ?_
      refine e_meetk ([69]) ?_ (.cons rfl (.cons rfl .nil)) ?_
      · exact ⟨hw0, by rw [if_pos hc0]⟩
      · exact (.cons rfl (by first | rfl | (refine congrArg (Value.int _) ?_; omega)) .nil)
    · skip
      refine c_skip ?_
      refine e_meetk ([101]) ?_ (.cons rfl (.cons rfl .nil)) ?_
      · exact ⟨hw0, by rw [if_neg (by rw [hc0]; decide)]⟩
      · exact (.cons rfl (by first | rfl | (refine congrArg (Value.int _) ?_; omega)) .nil)
  rintro e0 w1 ⟨hw1, he0⟩
  show RunC P _ _ _ (_ :: _) _
  refine c_cutk (ι := L8 × Int) (fun (z0 : L8 × Int) (w' : World) => match z0 with | ⟨e1, y⟩ => St w w.heap.size None' ([]) w' ∧ e1 ++ dtx y = exT x great plus ∧ 0 ≤ y ∧ y < 30000 ∧ e1.length ≤ 2) (fun (z0 : L8 × Int) => match z0 with | ⟨e1, y⟩ => [(0, .int .i64 y), (7, str e1)]) [] .nil ?_ ?_
  · skip
    refine c_seq ?_
    refine c_region ?_
    refine l_move rfl rfl rfl ?_
    refine l_lss rfl rfl rfl rfl ?_
    refine l_nil ?_
    refine e_then ?_
    refine c_keep [0, 2, 7, 10] (.cons rfl (.cons rfl (.cons rfl (.cons rfl .nil)))) ?_
    first | refine c_cond rfl (fun hc1 => ?_) (fun hc1 => ?_) | refine c_condb rfl (fun hc1 => ?_) (fun hc1 => ?_)
    · skip
      refine c_seq ?_
      refine c_region ?_
      refine l_move rfl rfl rfl ?_
      have hel0 : e0.length = 1 := by rw [he0]; cases great <;> rfl
      refine l_adds rfl rfl rfl rfl (by first | omega | (simp only [List.length_append, List.length_cons, List.length_nil] at *; omega)) ?_
      refine l_assign rfl rfl rfl ?_
      refine l_nil ?_
      refine e_then ?_
      refine c_keep [0, 7] (.cons rfl (.cons rfl .nil)) ?_
      refine c_region ?_
      refine l_move rfl rfl rfl ?_
      refine l_neg rfl rfl rfl (w_i64 (by omega)) ?_
      refine l_assign rfl rfl rfl ?_
      refine l_nil ?_
      refine e_meetk (e0 ++ [45], 0 - x) ?_ .nil ?_
      · exact ⟨hw1, by unfold exT; rw [if_pos hc1, he0, List.append_assoc], by omega, by omega, by rw [he0]; cases great <;> simp⟩
      · exact (.cons rfl (by first | rfl | (refine congrArg (Value.int _) ?_; omega)) (.cons rfl (by first | rfl | (refine congrArg (Value.int _) ?_; omega)) .nil))
    · skip
      refine c_seq ?_
      refine c_region ?_
      refine l_move rfl rfl rfl ?_
      refine l_nil ?_
      refine e_then ?_
      refine c_keep [0, 7, 15] (.cons rfl (.cons rfl (.cons rfl .nil))) ?_
      first | refine c_cond rfl (fun hc2 => ?_) (fun hc2 => ?_) | refine c_condb rfl (fun hc2 => ?_) (fun hc2 => ?_)
      · skip
        refine c_region ?_
        refine l_move rfl rfl rfl ?_
        have hel0 : e0.length = 1 := by rw [he0]; cases great <;> rfl
        refine l_adds rfl rfl rfl rfl (by first | omega | (simp only [List.length_append, List.length_cons, List.length_nil] at *; omega)) ?_
        refine l_assign rfl rfl rfl ?_
        refine l_nil ?_
        refine e_meetk (e0 ++ [43], x) ?_ .nil ?_
        · exact ⟨hw1, by unfold exT; rw [if_neg hc1, if_pos hc2, he0, List.append_assoc], by omega, by omega, by rw [he0]; cases great <;> simp⟩
        · exact (.cons rfl (by first | rfl | (refine congrArg (Value.int _) ?_; omega)) (.cons rfl (by first | rfl | (refine congrArg (Value.int _) ?_; omega)) .nil))
      · skip
        refine c_skip ?_
        refine e_meetk (e0, x) ?_ .nil ?_
        · exact ⟨hw1, by unfold exT; rw [if_neg hc1, he0, hc2]; rfl, by omega, by omega, by rw [he0]; cases great <;> simp⟩
        · exact (.cons rfl (by first | rfl | (refine congrArg (Value.int _) ?_; omega)) (.cons rfl (by first | rfl | (refine congrArg (Value.int _) ?_; omega)) .nil))
  rintro ⟨e1, y⟩ w2 ⟨hw2, he1, hy0, hy1, hel⟩
  show RunC P _ _ _ (_ :: _) _
  refine c_seq ?_
  refine c_region ?_
  refine l_move rfl rfl rfl ?_
  refine l_move rfl rfl rfl ?_
  refine l_conv rfl rfl Try.underlying3 Try.underlying25 rfl (w_u64 (by omega)) ?_
  refine v_lit hw2 rfl rfl Try.underlying42 ti25 rfl (.cons rfl (by first | rfl | assumption) .nil) rfl rfl rfl (fun b9_3 w3 hw3 => ?_)
  try clear hw2
  refine l_call rfl rfl Try.func25 rfl rfl (.cons rfl .nil) (numR _ [y] (U.one (by omega)) (by simp) w3 (hw3.ibl mem0)) ?_
  rintro vn w4 ⟨_, ln, rfl, hRn, hG⟩
  have hw4 := hG _ _ _ _ hw3
  try clear hG hw3
  simp only [List.cons_append, List.nil_append] at hw4
  have hRy : R16 ln y := by simpa [Ma.vb] using hRn
  have hby : Ma.blen y ≤ (64 : Nat) := (Ma.blen_le_iff hy0 64).2 (by rw [show (2 : Int) ^ 64 = 18446744073709551616 from by decide]; omega)
  have hdl := dtx_lt (n := y) (by omega)
  refine l_call rfl rfl Try.func24 rfl rfl (.cons rfl .nil) (digitsR vn ln y hRy (by have := hRy.len (k := 64) hby; omega) w4 (hw4.io mem0)) ?_
  rintro _ w5 ⟨rfl, hG⟩
  have hw5 := hG _ _ _ _ hw4
  try clear hG hw4
  simp only [List.cons_append, List.nil_append] at hw5
  refine l_adds rfl rfl rfl rfl (by first | omega | (simp only [List.length_append, List.length_cons, List.length_nil] at *; omega)) ?_
  refine l_assign rfl rfl rfl ?_
  refine l_nil ?_
  refine e_then ?_
  refine c_keep [6] (.cons rfl .nil) ?_
  refine c_ret ?_
  refine e_done1 Try.results35 rfl ?_
  refine ⟨_, rfl, ?_⟩
  have hw6 := St.del (.tail .head) hw5
  try clear hw5
  have hw7 := St.del .head hw6
  try clear hw6
  exact ⟨by rw [he1], hw7.grows⟩

theorem digV {v : Value} {l : L8} {w : World} (hv : IB w v l) : CallsV P 34 [v] w fun r w' => r = str (dgs l) ∧ Grow w w' [] := digits8 v l w hv

theorem text8 (wv bv : Value) (wl bl : L8) (x : Int) (neg point plus great : Bool) (hx : -30000 < x ∧ x < 30000) (w : World) (hwv : IB w wv wl) (hbv : IB w bv bl) :
    CallsV P 16 [.agg #[wv, bv, .int .i64 x, .bool neg, .bool point, .bool plus, .bool great]] w fun r w' => r = .tuple #[str (txT wl bl x neg point plus great), str (whl wl bl), str (dgs bl)] ∧ Grow w w' [] := by
  refine enterW Try.func16 rfl Try.ntmps16 rfl ?_
  have hw0 := St.start w
  have hone1 := slice_one hwv
  have hone2 := slice_one hbv
  have hll := whl_len wl bl
  have hlb := dgs_len bl
  have hlp := ptT_len bl point
  have hle := exT_len7 hx great plus
  have hls := sgT_len neg plus
  refine c_seq ?_
  refine c_region ?_
  refine l_box hw0 rfl rfl rfl (fun b0_0 w1 hw1 => ?_)
  try clear hw0
  refine l_assign rfl rfl rfl ?_
  refine l_assign rfl rfl rfl ?_
  refine l_assign rfl rfl rfl ?_
  refine l_nil ?_
  refine e_then ?_
  refine c_keep [1] (.cons rfl .nil) ?_
  refine c_seq ?_
  have hw2 := hw1.drewn
  try clear hw1
  refine c_any (n := 8) [false, false, false, false, false, false, false, false] (fun wS => (As.blk b0_0 38 [wv, bv, .int .i64 x, .bool neg, .bool point, .bool plus, .bool great]).ok wS) (by kernel_rfl) rfl rfl ?_
  apply a_take (L' := [true, false, false, false, false, false, false, false]) 0 rfl (by kernel_rfl) (by kernel_rfl) (by kernel_rfl) rfl rfl rfl rfl rfl (hw2.ok mem0)
  · intro wS sS
    refine l_field fo38_0 rfl rfl rfl ?_
    refine l_nil ?_
    exact e_got rfl
  apply a_take (L' := [true, true, false, false, false, false, false, false]) 1 rfl (by kernel_rfl) (by kernel_rfl) (by kernel_rfl) rfl rfl rfl rfl rfl (hw2.ok mem0)
  · intro wS sS
    refine l_load_blk (blk_st sS) mem0 rfl rfl Try.underlying22 rfl rfl rfl ?_
    refine l_nil ?_
    exact e_got rfl
  apply a_take (L' := [true, true, false, true, false, false, false, false]) 3 rfl (by kernel_rfl) (by kernel_rfl) (by kernel_rfl) rfl rfl rfl rfl rfl (hw2.ok mem0)
  · intro wS sS
    refine l_field fo38_1 rfl rfl rfl ?_
    refine l_nil ?_
    exact e_got rfl
  apply a_take (L' := [true, true, false, true, true, false, false, false]) 4 rfl (by kernel_rfl) (by kernel_rfl) (by kernel_rfl) rfl rfl rfl rfl rfl (hw2.ok mem0)
  · intro wS sS
    refine l_load_blk (blk_st sS) mem0 rfl rfl Try.underlying22 rfl rfl rfl ?_
    refine l_nil ?_
    exact e_got rfl
  refine a_one (L' := [true, true, true, true, true, false, false, false]) 2 (by kernel_rfl) rfl rfl ?_
  refine l_call rfl rfl Try.func34 rfl rfl (.cons rfl .nil) (digV (by first | exact hw2.iarg hwv | exact hw2.iarg hbv)) ?_
  rintro _ w3 ⟨rfl, hG⟩
  have hw3 := hG _ _ _ _ hw2
  try clear hG hw2
  simp only [List.cons_append, List.nil_append] at hw3
  refine l_nil ?_
  refine e_any (hw3.ok mem0) ?_
  refine a_one (L' := [true, true, true, true, true, true, false, false]) 5 (by kernel_rfl) rfl rfl ?_
  refine l_call rfl rfl Try.func34 rfl rfl (.cons rfl .nil) (digV (by first | exact hw3.iarg hwv | exact hw3.iarg hbv)) ?_
  rintro _ w4 ⟨rfl, hG⟩
  have hw4 := hG _ _ _ _ hw3
  try clear hG hw3
  simp only [List.cons_append, List.nil_append] at hw4
  refine l_nil ?_
  refine e_any (hw4.ok mem0) ?_
  apply a_take (L' := [true, true, true, true, true, true, true, false]) 6 rfl (by kernel_rfl) (by kernel_rfl) (by kernel_rfl) rfl rfl rfl rfl rfl (hw4.ok mem0)
  · intro wS sS
    refine l_assign rfl rfl rfl ?_
    refine l_nil ?_
    exact e_got rfl
  apply a_take (L' := [true, true, true, true, true, true, true, true]) 7 rfl (by kernel_rfl) (by kernel_rfl) (by kernel_rfl) rfl rfl rfl rfl rfl (hw4.ok mem0)
  · intro wS sS
    refine l_assign rfl rfl rfl ?_
    refine l_nil ?_
    exact e_got rfl
  refine a_done (by kernel_rfl) ?_
  refine e_then ?_
  refine c_keep [1, 5, 6] (.cons rfl (.cons rfl (.cons rfl .nil))) ?_
  refine c_cutk (ι := L8) (fun (wh : L8) (w' : World) => St w w.heap.size None' ([As.blk b0_0 38 [wv, bv, .int .i64 x, .bool neg, .bool point, .bool plus, .bool great]]) w' ∧ wh = whl wl bl) (fun (wh : L8) => [(5, str wh)]) [1, 6] (.cons rfl (.cons rfl .nil)) ?_ ?_
  · skip
    refine c_seq ?_
    refine c_region ?_
    refine l_move rfl rfl rfl ?_
    refine l_eqls rfl rfl rfl rfl ?_
    refine l_move rfl rfl rfl ?_
    apply l_and 2 [1, 5, 6] rfl rfl (.cons rfl (.cons rfl (.cons rfl (.cons rfl .nil)))) rfl rfl (fun _ => rfl) rfl rfl rfl
    · intro hg2_3
      refine l_move rfl rfl rfl ?_
      refine l_eqls rfl rfl rfl rfl ?_
      refine l_nil ?_
      exact e_stays rfl (.cons rfl (congrArg Value.bool (decide_eq_true hg2_3).symm) (.cons rfl rfl (.cons rfl rfl (.cons rfl rfl .nil))))
    refine l_nil ?_
    refine e_then ?_
    refine c_keep [1, 5, 6, 19] (.cons rfl (.cons rfl (.cons rfl (.cons rfl .nil)))) ?_
    first | refine c_cond rfl (fun hc0 => ?_) (fun hc0 => ?_) | refine c_condb rfl (fun hc0 => ?_) (fun hc0 => ?_)
    · skip
      refine c_region ?_
      refine l_assign rfl rfl rfl ?_
      refine l_nil ?_
      refine e_meetk ([48]) ?_ (.cons rfl (.cons rfl .nil)) ?_
      · exact ⟨hw4, by unfold whl; rw [if_pos hc0]⟩
      · exact (.cons rfl (by first | rfl | (refine congrArg (Value.int _) ?_; omega)) .nil)
    · skip
      refine c_skip ?_
      refine e_meetk (dgs wl) ?_ (.cons rfl (.cons rfl .nil)) ?_
      · exact ⟨hw4, by unfold whl; rw [if_neg hc0]⟩
      · exact (.cons rfl (by first | rfl | (refine congrArg (Value.int _) ?_; omega)) .nil)
  rintro wh w5 ⟨hw5, hwh⟩
  show RunC P _ _ _ (_ :: _) _
  refine c_seq ?_
  refine c_region ?_
  refine l_assign rfl rfl rfl ?_
  refine l_nil ?_
  refine e_then ?_
  refine c_cutk (ι := L8) (fun (s0 : L8) (w' : World) => St w w.heap.size None' ([As.blk b0_0 38 [wv, bv, .int .i64 x, .bool neg, .bool point, .bool plus, .bool great]]) w' ∧ s0 = sgT neg plus) (fun (s0 : L8) => [(7, str s0)]) [1, 5, 6] (.cons rfl (.cons rfl (.cons rfl .nil))) ?_ ?_
  · skip
    refine c_seq ?_
    refine c_region ?_
    refine l_field fo38_3 rfl rfl rfl ?_
    refine l_load_blk hw5 mem0 rfl rfl Try.underlying4 rfl rfl rfl ?_
    refine l_nil ?_
    refine e_then ?_
    refine c_keep [1, 5, 6, 7, 21] (.cons rfl (.cons rfl (.cons rfl (.cons rfl (.cons rfl .nil))))) ?_
    first | refine c_cond rfl (fun hc1 => ?_) (fun hc1 => ?_) | refine c_condb rfl (fun hc1 => ?_) (fun hc1 => ?_)
    · skip
      refine c_region ?_
      refine l_assign rfl rfl rfl ?_
      refine l_nil ?_
      refine e_meetk ([45]) ?_ (.cons rfl (.cons rfl (.cons rfl .nil))) ?_
      · exact ⟨hw5, by unfold sgT; rw [if_pos hc1]⟩
      · exact (.cons rfl (by first | rfl | (refine congrArg (Value.int _) ?_; omega)) .nil)
    · skip
      refine c_seq ?_
      refine c_region ?_
      refine l_field fo38_5 rfl rfl rfl ?_
      refine l_load_blk hw5 mem0 rfl rfl Try.underlying4 rfl rfl rfl ?_
      refine l_nil ?_
      refine e_then ?_
      refine c_keep [1, 5, 6, 7, 23] (.cons rfl (.cons rfl (.cons rfl (.cons rfl (.cons rfl .nil))))) ?_
      first | refine c_cond rfl (fun hc2 => ?_) (fun hc2 => ?_) | refine c_condb rfl (fun hc2 => ?_) (fun hc2 => ?_)
      · skip
        refine c_region ?_
        refine l_assign rfl rfl rfl ?_
        refine l_nil ?_
        refine e_meetk ([43]) ?_ (.cons rfl (.cons rfl (.cons rfl .nil))) ?_
        · exact ⟨hw5, by unfold sgT; rw [if_neg (by rw [hc1]; decide), if_pos hc2]⟩
        · exact (.cons rfl (by first | rfl | (refine congrArg (Value.int _) ?_; omega)) .nil)
      · skip
        refine c_skip ?_
        refine e_meetk ([]) ?_ (.cons rfl (.cons rfl (.cons rfl .nil))) ?_
        · exact ⟨hw5, by unfold sgT; rw [if_neg (by rw [hc1]; decide), if_neg (by rw [hc2]; decide)]⟩
        · exact (.cons rfl (by first | rfl | (refine congrArg (Value.int _) ?_; omega)) .nil)
  rintro s0 w6 ⟨hw6, hs0⟩
  show RunC P _ _ _ (_ :: _) _
  refine c_seq ?_
  refine c_region ?_
  refine l_move rfl rfl rfl ?_
  refine l_move rfl rfl rfl ?_
  have hl9 : wh.length ≤ 40 := by rw [hwh]; omega
  have hl9b : s0.length ≤ 1 := by rw [hs0]; omega
  refine l_adds rfl rfl rfl rfl (by first | omega | (simp only [List.length_append, List.length_cons, List.length_nil] at *; omega)) ?_
  refine l_assign rfl rfl rfl ?_
  refine l_nil ?_
  refine e_then ?_
  refine c_keep [1, 5, 6, 7] (.cons rfl (.cons rfl (.cons rfl (.cons rfl .nil)))) ?_
  refine c_cutk (ι := L8) (fun (s1 : L8) (w' : World) => St w w.heap.size None' ([As.blk b0_0 38 [wv, bv, .int .i64 x, .bool neg, .bool point, .bool plus, .bool great]]) w' ∧ s1 = s0 ++ wh ++ ptT bl point) (fun (s1 : L8) => [(7, str s1)]) [1, 5, 6] (.cons rfl (.cons rfl (.cons rfl .nil))) ?_ ?_
  · skip
    refine c_seq ?_
    refine c_region ?_
    refine l_field fo38_4 rfl rfl rfl ?_
    refine l_load_blk hw6 mem0 rfl rfl Try.underlying4 rfl rfl rfl ?_
    refine l_move rfl rfl rfl ?_
    refine l_turn (s := 29) (v' := .bool (decide (point = true))) rfl (by cases point <;> rfl) ?_
    apply l_or 2 [1, 5, 6, 7] rfl rfl (.cons rfl (.cons rfl (.cons rfl (.cons rfl (.cons rfl .nil))))) rfl rfl (fun _ => rfl) rfl rfl rfl
    · intro hg10_3
      refine l_move rfl rfl rfl ?_
      refine l_neqs rfl rfl rfl rfl ?_
      refine l_nil ?_
      exact e_stays rfl (.cons rfl (congrArg Value.bool (decide_eq_false hg10_3).symm) (.cons rfl rfl (.cons rfl rfl (.cons rfl rfl (.cons rfl rfl .nil)))))
    refine l_nil ?_
    refine e_then ?_
    refine c_keep [1, 5, 6, 7, 32] (.cons rfl (.cons rfl (.cons rfl (.cons rfl (.cons rfl .nil))))) ?_
    first | refine c_cond rfl (fun hc3 => ?_) (fun hc3 => ?_) | refine c_condb rfl (fun hc3 => ?_) (fun hc3 => ?_)
    · skip
      refine c_region ?_
      refine l_move rfl rfl rfl ?_
      have hl11 : (s0 ++ wh).length ≤ 41 := by rw [List.length_append, hs0, hwh]; omega
      refine l_adds rfl rfl rfl rfl (by first | omega | (simp only [List.length_append, List.length_cons, List.length_nil] at *; omega)) ?_
      refine l_move rfl rfl rfl ?_
      refine l_adds rfl rfl rfl rfl (by first | omega | (simp only [List.length_append, List.length_cons, List.length_nil] at *; omega)) ?_
      refine l_assign rfl rfl rfl ?_
      refine l_nil ?_
      refine e_meetk (s0 ++ wh ++ [46] ++ dgs bl) ?_ (.cons rfl (.cons rfl (.cons rfl .nil))) ?_
      · exact ⟨hw6, by unfold ptT; rw [if_pos hc3]; simp only [List.append_assoc]⟩
      · exact (.cons rfl (by first | rfl | (refine congrArg (Value.int _) ?_; omega)) .nil)
    · skip
      refine c_skip ?_
      refine e_meetk (s0 ++ wh) ?_ (.cons rfl (.cons rfl (.cons rfl .nil))) ?_
      · exact ⟨hw6, by unfold ptT; rw [if_neg hc3, List.append_nil]⟩
      · exact (.cons rfl (by first | rfl | (refine congrArg (Value.int _) ?_; omega)) .nil)
  rintro s1 w7 ⟨hw7, hs1⟩
  show RunC P _ _ _ (_ :: _) _
  refine c_cutk (ι := L8) (fun (s2 : L8) (w' : World) => St w w.heap.size None' ([As.blk b0_0 38 [wv, bv, .int .i64 x, .bool neg, .bool point, .bool plus, .bool great]]) w' ∧ s2 = txT wl bl x neg point plus great) (fun (s2 : L8) => [(7, str s2)]) [5, 6] (.cons rfl (.cons rfl .nil)) ?_ ?_
  · skip
    refine c_seq ?_
    refine c_region ?_
    refine l_field fo38_2 rfl rfl rfl ?_
    refine l_load_blk hw7 mem0 rfl rfl Try.underlying3 rfl rfl rfl ?_
    refine l_neq rfl rfl rfl rfl ?_
    refine l_nil ?_
    refine e_then ?_
    refine c_keep [1, 5, 6, 7, 39] (.cons rfl (.cons rfl (.cons rfl (.cons rfl (.cons rfl .nil))))) ?_
    first | refine c_cond rfl (fun hc4 => ?_) (fun hc4 => ?_) | refine c_condb rfl (fun hc4 => ?_) (fun hc4 => ?_)
    · skip
      refine c_region ?_
      refine l_move rfl rfl rfl ?_
      refine l_field fo38_2 rfl rfl rfl ?_
      refine l_load_blk hw7 mem0 rfl rfl Try.underlying3 rfl rfl rfl ?_
      refine l_field fo38_6 rfl rfl rfl ?_
      refine l_load_blk hw7 mem0 rfl rfl Try.underlying4 rfl rfl rfl ?_
      refine l_field fo38_5 rfl rfl rfl ?_
      refine l_load_blk hw7 mem0 rfl rfl Try.underlying4 rfl rfl rfl ?_
      refine l_call rfl rfl Try.func35 rfl rfl (.cons rfl (.cons rfl (.cons rfl .nil))) (exponent8 x great plus hx w7) ?_
      rintro _ w8 ⟨rfl, hG⟩
      have hw8 := hG _ _ _ _ hw7
      try clear hG hw7
      simp only [List.cons_append, List.nil_append] at hw8
      have hl13 : s1.length ≤ 90 := by rw [hs1, hs0, hwh, List.length_append, List.length_append]; omega
      refine l_adds rfl rfl rfl rfl (by first | omega | (simp only [List.length_append, List.length_cons, List.length_nil] at *; omega)) ?_
      refine l_assign rfl rfl rfl ?_
      refine l_nil ?_
      refine e_meetk (s1 ++ exT x great plus) ?_ (.cons rfl (.cons rfl .nil)) ?_
      · exact ⟨hw8, by unfold txT; rw [if_neg hc4, hs1, hs0, hwh]⟩
      · exact (.cons rfl (by first | rfl | (refine congrArg (Value.int _) ?_; omega)) .nil)
    · skip
      refine c_skip ?_
      refine e_meetk (s1) ?_ (.cons rfl (.cons rfl .nil)) ?_
      · exact ⟨hw7, by unfold txT; rw [if_pos (Classical.not_not.1 hc4), List.append_nil, hs1, hs0, hwh]⟩
      · exact (.cons rfl (by first | rfl | (refine congrArg (Value.int _) ?_; omega)) .nil)
  rintro s2 w9 ⟨hw9, hs2⟩
  show RunC P _ _ _ (_ :: _) _
  refine c_seq ?_
  refine c_region ?_
  refine l_move rfl rfl rfl ?_
  refine l_move rfl rfl rfl ?_
  refine l_move rfl rfl rfl ?_
  refine l_assign rfl rfl rfl ?_
  refine l_assign rfl rfl rfl ?_
  refine l_assign rfl rfl rfl ?_
  refine l_nil ?_
  refine e_then ?_
  refine c_keep [2, 3, 4] (.cons rfl (.cons rfl (.cons rfl .nil))) ?_
  refine c_ret ?_
  refine e_doneN Try.results16 (.tmp rfl (.tmp rfl (.tmp rfl .nil))) rfl ?_
  refine ⟨_, rfl, ?_⟩
  have hw10 := St.del .head hw9
  try clear hw9
  exact ⟨by rw [hs2, hwh], hw10.grows⟩
theorem scanFormsL (wv bv : Value) (wl bl : L8) (x0 : Int) (neg point plus great : Bool) (noughts : Int) (w : World) (hwv : IB w wv wl) (hbv : IB w bv bl) :
    CallsV P 4 [.agg #[wv, bv, .int .i64 x0, .bool neg, .bool point, .bool plus, .bool great], .int .i64 noughts] w fun r w' => r = .bool true ∧ Grow w w' [] := by
  refine enterW Try.func4 rfl Try.ntmps4 rfl ?_
  have hw0 := St.start w
  have hone1 := slice_one hwv
  have hone2 := slice_one hbv
  have hxb := tmod_bd x0
  have hbl1 := body_len wl bl hxb point false great
  have hbl2 := body_len wl bl hxb point true (!great)
  have hf1 := body_form0 wl bl hxb (.inl ⟨rfl, rfl⟩) point false great
  have ht1 : (txT wl bl (x0.tmod 30000) false point false great).length ≤ 100 := by rw [txT_eq, List.length_append]; have := sgT_len false false; omega
  have hnilz : ([] : L8) ++ body wl bl (x0.tmod 30000) point false great = txT wl bl (x0.tmod 30000) false point false great := by rw [txT_eq]; rfl
  rw [hnilz] at hf1
  have hwl := whl_len wl bl
  refine c_seq ?_
  refine c_region ?_
  refine l_box hw0 rfl rfl rfl (fun b0_0 w1 hw1 => ?_)
  try clear hw0
  refine l_assign rfl rfl rfl ?_
  refine l_nil ?_
  refine e_then ?_
  refine c_keep [1, 2] (.cons rfl (.cons rfl .nil)) ?_
  refine c_seq ?_
  refine c_region ?_
  refine l_field fo38_2 rfl rfl rfl ?_
  refine l_load_blk hw1 mem0 rfl rfl Try.underlying3 rfl rfl rfl ?_
  refine l_rem rfl rfl rfl rfl (by omega) (rfl) ?_
  refine l_field fo38_2 rfl rfl rfl ?_
  refine l_store_blk hw1 .head (by repeat (first | exact .zero | apply SetAt.succ)) rfl tz3 rfl rfl (by first | rfl | assumption) (fun w2 hw2 => ?_)
  try clear hw1
  refine l_nil ?_
  refine e_then ?_
  refine c_keep [1, 2] (.cons rfl (.cons rfl .nil)) ?_
  refine c_seq ?_
  refine c_region ?_
  refine l_field fo38_3 rfl rfl rfl ?_
  refine l_store_blk hw2 .head (by repeat (first | exact .zero | apply SetAt.succ)) rfl tz4 rfl rfl (by first | rfl | assumption) (fun w3 hw3 => ?_)
  try clear hw2
  refine l_nil ?_
  refine e_then ?_
  refine c_keep [1, 2] (.cons rfl (.cons rfl .nil)) ?_
  refine c_seq ?_
  refine c_region ?_
  refine l_field fo38_5 rfl rfl rfl ?_
  refine l_store_blk hw3 .head (by repeat (first | exact .zero | apply SetAt.succ)) rfl tz4 rfl rfl (by first | rfl | assumption) (fun w4 hw4 => ?_)
  try clear hw3
  refine l_nil ?_
  refine e_then ?_
  refine c_keep [1, 2] (.cons rfl (.cons rfl .nil)) ?_
  refine c_seq ?_
  refine c_region ?_
  refine l_load_agg hw4 mem0 rfl rfl Try.underlying38 rfl tz38 rfl (.take (.take (.take (.take (.take (.take (.take .nil))))))) ?_
  refine l_call rfl rfl Try.func16 rfl rfl (.cons rfl .nil) (text8 wv bv wl bl (x0.tmod 30000) false point false great hxb w4 (hw4.iarg hwv) (hw4.iarg hbv)) ?_
  rintro _ w5 ⟨rfl, hG⟩
  have hw5 := hG _ _ _ _ hw4
  try clear hG hw4
  simp only [List.cons_append, List.nil_append] at hw5
  refine l_move rfl rfl rfl ?_
  refine l_extract rfl rfl rfl rfl ?_
  refine l_extract rfl rfl rfl rfl ?_
  refine l_extract rfl rfl rfl rfl ?_
  refine l_assign rfl rfl rfl ?_
  refine l_assign rfl rfl rfl ?_
  refine l_assign rfl rfl rfl ?_
  refine l_nil ?_
  refine e_then ?_
  refine c_keep [1, 2, 5, 7] (.cons rfl (.cons rfl (.cons rfl (.cons rfl .nil)))) ?_
  refine c_seq ?_
  refine c_region ?_
  refine l_move rfl rfl rfl ?_
  refine v_tobytes hw5 rfl rfl Try.underlying9 Try.underlying22 Try.underlying5 rfl (fun v5_1 w6 hw6 => ?_)
  try clear hw5
  refine l_call rfl rfl Try.func11 rfl rfl (.cons rfl .nil) (scanS _ (txT wl bl (x0.tmod 30000) false point false great) (by omega) w6 (hw6.ii mem0)) ?_
  rintro _ w7 ⟨ng1, wd1, man1, x1, more1, p1, e1, rfl, hSng1, hG⟩
  have hw7 := hG _ _ _ _ hw6
  try clear hG hw6
  simp only [List.cons_append, List.nil_append] at hw7
  obtain ⟨_, _, he1, _⟩ := numG_0 (hSng1.form hf1 (by omega))
  refine l_move rfl rfl rfl ?_
  refine l_extract rfl rfl rfl rfl ?_
  refine l_extract rfl rfl rfl rfl ?_
  refine l_extract rfl rfl rfl rfl ?_
  refine l_alloc hw7 ta27 rfl rfl (fun b5_7 w8 hw8 => ?_)
  try clear hw7
  refine l_store_blks hw8 .head (.zero (.zero (.zero (.zero (.zero .nil))))) rfl tz27 rfl rfl (by first | (simp [Value.oneCell']; done) | (intro u hu; simp only [List.mem_cons, List.not_mem_nil, or_false] at hu; rcases hu with rfl | rfl | rfl | rfl | rfl <;> first | rfl | assumption)) (fun w9 hw9 => ?_)
  try clear hw8
  refine l_assign rfl rfl rfl ?_
  refine l_assign rfl rfl rfl ?_
  refine l_nil ?_
  refine e_then ?_
  refine c_keep [1, 2, 7, 8, 10] (.cons rfl (.cons rfl (.cons rfl (.cons rfl (.cons rfl .nil))))) ?_
  refine c_seq ?_
  refine c_region ?_
  refine l_assign rfl rfl rfl ?_
  refine l_nil ?_
  refine e_then ?_
  refine c_seq ?_
  refine c_seq ?_
  refine c_region ?_
  refine l_assign rfl rfl rfl ?_
  refine l_nil ?_
  refine e_then ?_
  refine c_block ?_
  refine c_loopk (ι := Nat) (fun (k : Nat) => 60 - k) (fun (k : Nat) (w' : World) => St w w.heap.size None' ([As.iv v5_1 (bys (txT wl bl (x0.tmod 30000) false point false great)), As.blk b5_7 27 [.bool ng1, .int .i64 wd1, .int .u64 man1, .int .i64 x1, .bool more1], As.blk b0_0 38 [wv, bv, .int .i64 (x0.tmod 30000), .bool false, .bool point, .bool false, .bool great]]) w' ∧ k ≤ 60) (fun (k : Nat) => [(11, str (List.replicate k 48)), (12, .int .i64 (k : Int))]) [1, 2, 7, 8, 10] (0) ?_ (.cons rfl (.cons rfl (.cons rfl (.cons rfl (.cons rfl .nil))))) ?_ ?_
  · exact ⟨hw9.front1, by omega⟩
  · exact (.cons rfl (by first | rfl | (refine congrArg (Value.int _) ?_; omega)) (.cons rfl (by first | rfl | (refine congrArg (Value.int _) ?_; omega)) .nil))
  rintro k w10 ⟨hw10, hk⟩
  show RunC P _ _ _ (_ :: _) _
  refine c_seq ?_
  refine c_seq ?_
  refine c_region ?_
  refine l_move rfl rfl rfl ?_
  refine l_move rfl rfl rfl ?_
  refine l_lss rfl rfl rfl rfl ?_
  refine l_move rfl rfl rfl ?_
  apply l_and 2 [1, 2, 7, 8, 10, 11, 12] rfl rfl (.cons rfl (.cons rfl (.cons rfl (.cons rfl (.cons rfl (.cons rfl (.cons rfl (.cons rfl .nil)))))))) rfl rfl (fun _ => rfl) rfl rfl rfl
  · intro hg8_4
    refine l_move rfl rfl rfl ?_
    refine l_lss rfl rfl rfl rfl ?_
    refine l_nil ?_
    exact e_stays rfl (.cons rfl (congrArg Value.bool (decide_eq_true hg8_4).symm) (.cons rfl rfl (.cons rfl rfl (.cons rfl rfl (.cons rfl rfl (.cons rfl rfl (.cons rfl rfl (.cons rfl rfl .nil))))))))
  refine l_nil ?_
  refine e_then ?_
  refine c_keep [1, 2, 7, 8, 10, 11, 12, 47] (.cons rfl (.cons rfl (.cons rfl (.cons rfl (.cons rfl (.cons rfl (.cons rfl (.cons rfl .nil)))))))) ?_
  first | refine c_cond rfl (fun hc0 => ?_) (fun hc0 => ?_) | refine c_condb rfl (fun hc0 => ?_) (fun hc0 => ?_)
  · skip
    refine c_skip ?_
    refine e_then ?_
    refine c_keep [1, 2, 7, 8, 10, 11, 12] (.cons rfl (.cons rfl (.cons rfl (.cons rfl (.cons rfl (.cons rfl (.cons rfl .nil))))))) ?_
    refine c_seq ?_
    refine c_block ?_
    refine c_region ?_
    refine l_move rfl rfl rfl ?_
    have hlz : (List.replicate k (48 : UInt8)).length = k := List.length_replicate
    refine l_adds rfl rfl rfl rfl (by first | omega | (simp only [List.length_append, List.length_cons, List.length_nil] at *; omega)) ?_
    refine l_assign rfl rfl rfl ?_
    refine l_nil ?_
    refine e_blk ?_
    refine e_then ?_
    refine c_keep [1, 2, 7, 8, 10, 11, 12] (.cons rfl (.cons rfl (.cons rfl (.cons rfl (.cons rfl (.cons rfl (.cons rfl .nil))))))) ?_
    refine c_region ?_
    refine l_move rfl rfl rfl ?_
    refine l_add rfl rfl rfl rfl (w_i64 (by omega)) ?_
    refine l_assign rfl rfl rfl ?_
    refine l_nil ?_
    refine e_againk (i := (k)) (k + 1) ?_ ?_ (.cons rfl (.cons rfl (.cons rfl (.cons rfl (.cons rfl .nil))))) ?_
    · first | omega | (simp; omega)
    · exact ⟨hw10, by omega⟩
    · exact (.cons rfl (by rw [List.replicate_succ']) (.cons rfl (by first | rfl | (refine congrArg (Value.int _) ?_; omega)) .nil))
  · skip
    refine c_exit ?_
    refine e_then_exit ?_
    refine e_then_exit ?_
    refine e_blk_exit ?_
    refine e_then ?_
    refine c_keep [2, 7, 8, 10, 11] (.cons rfl (.cons rfl (.cons rfl (.cons rfl (.cons rfl .nil))))) ?_
    refine c_seq ?_
    refine c_region ?_
    refine l_field fo38_6 rfl rfl rfl ?_
    refine l_load_blk hw10 mem2 rfl rfl Try.underlying4 rfl rfl rfl ?_
    first | refine l_notd rfl rfl rfl ?_ | refine l_not rfl rfl rfl ?_
    refine l_field fo38_6 rfl rfl rfl ?_
    refine l_store_blk hw10 (.tail (.tail .head)) (by repeat (first | exact .zero | apply SetAt.succ)) rfl tz4 rfl rfl (by first | rfl | assumption) (fun w11 hw11 => ?_)
    try clear hw10
    refine l_nil ?_
    refine e_then ?_
    refine c_keep [2, 7, 8, 10, 11] (.cons rfl (.cons rfl (.cons rfl (.cons rfl (.cons rfl .nil))))) ?_
    refine c_seq ?_
    refine c_region ?_
    refine l_field fo38_5 rfl rfl rfl ?_
    refine l_store_blk hw11 (.tail (.tail .head)) (by repeat (first | exact .zero | apply SetAt.succ)) rfl tz4 rfl rfl (by first | rfl | assumption) (fun w12 hw12 => ?_)
    try clear hw11
    refine l_nil ?_
    refine e_then ?_
    refine c_keep [2, 7, 8, 10, 11] (.cons rfl (.cons rfl (.cons rfl (.cons rfl (.cons rfl .nil))))) ?_
    refine c_seq ?_
    refine c_region ?_
    refine l_load_agg hw12 mem2 rfl rfl Try.underlying38 rfl tz38 rfl (.take (.take (.take (.take (.take (.take (.take .nil))))))) ?_
    refine l_call rfl rfl Try.func16 rfl rfl (.cons rfl .nil) (text8 wv bv wl bl (x0.tmod 30000) false point true (!great) hxb w12 (hw12.iarg hwv) (hw12.iarg hbv)) ?_
    rintro _ w13 ⟨rfl, hG⟩
    have hw13 := hG _ _ _ _ hw12
    try clear hG hw12
    simp only [List.cons_append, List.nil_append] at hw13
    refine l_move rfl rfl rfl ?_
    refine l_extract rfl rfl rfl rfl ?_
    refine l_extract rfl rfl rfl rfl ?_
    refine l_extract rfl rfl rfl rfl ?_
    refine l_assign rfl rfl rfl ?_
    refine l_assign rfl rfl rfl ?_
    refine l_assign rfl rfl rfl ?_
    refine l_nil ?_
    refine e_then ?_
    refine c_keep [2, 7, 8, 10, 11, 13, 14] (.cons rfl (.cons rfl (.cons rfl (.cons rfl (.cons rfl (.cons rfl (.cons rfl .nil))))))) ?_
    refine c_seq ?_
    refine c_region ?_
    refine l_move rfl rfl rfl ?_
    have hlz : (List.replicate k (48 : UInt8)).length = k := List.length_replicate
    have ht2 : (txT wl bl (x0.tmod 30000) false point true (!great)).length ≤ 100 := by rw [txT_eq, List.length_append]; have := sgT_len false true; omega
    refine l_adds rfl rfl rfl rfl (by first | omega | (simp only [List.length_append, List.length_cons, List.length_nil] at *; omega)) ?_
    refine l_move rfl rfl rfl ?_
    have ht2p : 1 ≤ (txT wl bl (x0.tmod 30000) false point true (!great)).length := by rw [txT_eq]; simp [sgT]
    refine l_slices (l := 1) (h := (txT wl bl (x0.tmod 30000) false point true (!great)).length) rfl rfl Try.underlying9 rfl rfl rfl (by first | rfl | (simp; done) | (simp; omega)) (by first | rfl | (simp; done) | (simp; omega)) (by omega) (by first | omega | (simp; omega) | (simp; done)) ?_
    refine l_turn (s := 67) (v' := str (body wl bl (x0.tmod 30000) point true (!great))) rfl (by rw [List.take_length, txT_eq]; rfl) ?_
    have hls : ([43] ++ List.replicate k (48 : UInt8)).length ≤ 61 := by rw [List.length_append, hlz]; simp; omega
    refine l_adds rfl rfl rfl rfl (by first | omega | (simp only [List.length_append, List.length_cons, List.length_nil] at *; omega)) ?_
    refine v_tobytes hw13 rfl rfl Try.underlying9 Try.underlying22 Try.underlying5 rfl (fun v14_5 w14 hw14 => ?_)
    try clear hw13
    refine l_call rfl rfl Try.func11 rfl rfl (.cons rfl .nil) (scanS _ ([43] ++ List.replicate k 48 ++ body wl bl (x0.tmod 30000) point true (!great)) (by simp only [List.length_append, List.length_replicate, List.length_singleton]; omega) w14 (hw14.ii mem0)) ?_
    rintro _ w15 ⟨ng2, wd2, man2, x2, more2, p2, e2, rfl, hSng2, hG⟩
    have hw15 := hG _ _ _ _ hw14
    try clear hG hw14
    simp only [List.cons_append, List.nil_append] at hw15
    have hf2 := body_form wl bl hxb (z := [43]) (neg := false) (.inr (.inl ⟨rfl, rfl⟩)) k point true (!great)
    rw [← List.append_assoc] at hf2
    have hg2 := hSng2.form hf2 (by simp only [List.length_append, List.length_replicate, List.length_singleton]; omega)
    rw [List.append_assoc (List.replicate k 48), skip0_zeros] at hg2
    obtain ⟨rfl, rfl, rfl, rfl, rfl, rfl, rfl⟩ := tup7 ((hSng1.form hf1 (by omega)).trans hg2.symm)
    refine l_move rfl rfl rfl ?_
    refine l_extract rfl rfl rfl rfl ?_
    refine l_extract rfl rfl rfl rfl ?_
    refine l_extract rfl rfl rfl rfl ?_
    refine l_alloc hw15 ta27 rfl rfl (fun b14_11 w16 hw16 => ?_)
    try clear hw15
    refine l_store_blks hw16 .head (.zero (.zero (.zero (.zero (.zero .nil))))) rfl tz27 rfl rfl (by first | (simp [Value.oneCell']; done) | (intro u hu; simp only [List.mem_cons, List.not_mem_nil, or_false] at hu; rcases hu with rfl | rfl | rfl | rfl | rfl <;> first | rfl | assumption)) (fun w17 hw17 => ?_)
    try clear hw16
    refine l_assign rfl rfl rfl ?_
    refine l_assign rfl rfl rfl ?_
    refine l_nil ?_
    refine e_then ?_
    refine c_keep [2, 7, 8, 10, 11, 14, 16, 18] (.cons rfl (.cons rfl (.cons rfl (.cons rfl (.cons rfl (.cons rfl (.cons rfl (.cons rfl .nil)))))))) ?_
    refine c_seq ?_
    refine c_seq ?_
    refine c_region ?_
    refine l_move rfl rfl rfl ?_
    refine l_callp rfl rfl Try.func13 rfl rfl (.cons rfl .nil) (numL _ (by omega) _) ?_
    refine l_neq rfl rfl rfl rfl ?_
    refine l_turn (s := 76) (v' := .bool false) rfl (by rw [decide_eq_false (by omega)]) ?_
    refine l_move rfl rfl rfl ?_
    refine l_move rfl rfl rfl ?_
    refine l_callp rfl rfl Try.func13 rfl rfl (.cons rfl .nil) (numL _ (by omega) _) ?_
    refine l_neq rfl rfl rfl rfl ?_
    refine l_turn (s := 80) (v' := .bool false) rfl (by rw [decide_eq_false (by omega)]) ?_
    refine l_pick_f rfl rfl rfl rfl ?_
    refine l_move rfl rfl rfl ?_
    refine l_load_agg hw17 mem0 rfl rfl Try.underlying27 rfl tz27 rfl (.take (.take (.take (.take (.take .nil))))) ?_
    refine l_load_agg hw17 mem3 rfl rfl Try.underlying27 rfl tz27 rfl (.take (.take (.take (.take (.take .nil))))) ?_
    refine l_neqA rfl rfl fl27 rfl rfl (.bool rfl rfl (.int rfl rfl (.int rfl rfl (.int rfl rfl (.bool rfl rfl .nil))))) ?_
    refine l_turn (s := 85) (v' := .bool false) rfl (by simp) ?_
    refine l_pick_f rfl rfl rfl rfl ?_
    refine l_nil ?_
    refine e_then ?_
    refine c_keep [2, 7, 8, 11, 14, 86] (.cons rfl (.cons rfl (.cons rfl (.cons rfl (.cons rfl (.cons rfl .nil)))))) ?_
    refine c_cond_f rfl rfl ?_
    refine c_skip ?_
    refine e_then ?_
    refine c_keep [2, 7, 8, 11, 14] (.cons rfl (.cons rfl (.cons rfl (.cons rfl (.cons rfl .nil))))) ?_
    refine c_seq ?_
    refine c_seq ?_
    refine c_region ?_
    refine l_move rfl rfl rfl ?_
    refine l_neqs rfl rfl rfl rfl ?_
    refine l_move rfl rfl rfl ?_
    apply l_or 3 [8, 11, 14] rfl rfl (.cons rfl (.cons rfl (.cons rfl (.cons rfl .nil)))) rfl rfl (fun _ => rfl) rfl rfl rfl
    · intro hg17_3
      refine l_field fo38_2 rfl rfl rfl ?_
      refine l_load_blk hw17 mem4 rfl rfl Try.underlying3 rfl rfl rfl ?_
      refine l_neq rfl rfl rfl rfl ?_
      refine l_nil ?_
      exact e_stays rfl (.cons rfl (congrArg Value.bool (decide_eq_false hg17_3).symm) (.cons rfl rfl (.cons rfl rfl (.cons rfl rfl .nil))))
    refine l_nil ?_
    refine e_then ?_
    refine c_keep [8, 11, 14, 93] (.cons rfl (.cons rfl (.cons rfl (.cons rfl .nil)))) ?_
    first | refine c_cond rfl (fun hc2 => ?_) (fun hc2 => ?_) | refine c_condb rfl (fun hc2 => ?_) (fun hc2 => ?_)
    · skip
      refine c_seq ?_
      refine c_region ?_
      refine l_call rfl rfl Try.func15 rfl rfl .nil (wakesL w17) ?_
      rintro _ w18 ⟨rfl, hG⟩
      have hw18 := hG _ _ _ _ hw17
      try clear hG hw17
      simp only [List.cons_append, List.nil_append] at hw18
      refine l_assign rfl rfl rfl ?_
      refine l_nil ?_
      refine e_then ?_
      refine c_keep [4] (.cons rfl .nil) ?_
      refine c_ret ?_
      refine e_then_ret ?_
      refine e_done1 Try.results4 rfl ?_
      refine ⟨_, rfl, ?_⟩
      have hw19 := St.del (.tail (.tail (.tail (.tail .head)))) hw18
      try clear hw18
      have hw20 := St.del (.tail (.tail (.tail .head))) hw19
      try clear hw19
      have hw21 := St.del (.tail (.tail .head)) hw20
      try clear hw20
      have hw22 := St.del (.tail .head) hw21
      try clear hw21
      have hw23 := St.del .head hw22
      try clear hw22
      exact ⟨rfl, hw23.grows⟩
    · skip
      refine c_skip ?_
      refine e_then ?_
      refine c_keep [8, 11, 14] (.cons rfl (.cons rfl (.cons rfl .nil))) ?_
      refine c_seq ?_
      refine c_region ?_
      refine l_move rfl rfl rfl ?_
      refine l_move rfl rfl rfl ?_
      have hlz : (List.replicate k (48 : UInt8)).length = k := List.length_replicate
      refine l_adds rfl rfl rfl rfl (by first | omega | (simp only [List.length_append, List.length_cons, List.length_nil] at *; omega)) ?_
      have hls3 : (List.replicate k 48 ++ whl wl bl).length ≤ 100 := by rw [List.length_append, hlz]; omega
      have hF0 : dgs bl = [] := Classical.not_not.1 (fun h => hc2 (.inl h))
      have hX0 : x0.tmod 30000 = 0 := Classical.not_not.1 (fun h => hc2 (.inr h))
      refine l_adds rfl rfl rfl rfl (by first | omega | (simp only [List.length_append, List.length_cons, List.length_nil] at *; omega)) ?_
      refine v_tobytes hw17 rfl rfl Try.underlying9 Try.underlying22 Try.underlying5 rfl (fun v19_4 w24 hw24 => ?_)
      try clear hw17
      refine l_call rfl rfl Try.func11 rfl rfl (.cons rfl .nil) (scanS _ (List.replicate k 48 ++ whl wl bl ++ [46]) (by simp only [List.length_append, List.length_replicate, List.length_singleton]; omega) w24 (hw24.ii mem0)) ?_
      rintro _ w25 ⟨ng3, wd3, man3, x3, more3, p3, e3, rfl, hSng3, hG⟩
      have hw25 := hG _ _ _ _ hw24
      try clear hG hw24
      simp only [List.cons_append, List.nil_append] at hw25
      have hf3 := tx_form wl bl hxb [] (neg := false) (.inl ⟨rfl, rfl⟩) k true false false
      rw [if_pos hX0, show ptT bl true = [46] from by unfold ptT; rw [if_pos (.inl rfl), hF0]; rfl, List.append_nil, List.nil_append] at hf3
      have hg3 := hSng3.form hf3 (by simp only [List.length_append, List.length_replicate, List.length_singleton]; omega)
      rw [List.append_assoc (List.replicate k 48), skip0_zeros] at hg3
      obtain ⟨rfl, rfl, rfl, rfl, rfl, rfl, rfl⟩ := tup7 ((hSng1.form hf1 (by omega)).trans hg3.symm)
      refine l_move rfl rfl rfl ?_
      refine l_extract rfl rfl rfl rfl ?_
      refine l_extract rfl rfl rfl rfl ?_
      refine l_extract rfl rfl rfl rfl ?_
      refine l_alloc hw25 ta27 rfl rfl (fun b19_10 w26 hw26 => ?_)
      try clear hw25
      refine l_store_blks hw26 .head (.zero (.zero (.zero (.zero (.zero .nil))))) rfl tz27 rfl rfl (by first | (simp [Value.oneCell']; done) | (intro u hu; simp only [List.mem_cons, List.not_mem_nil, or_false] at hu; rcases hu with rfl | rfl | rfl | rfl | rfl <;> first | rfl | assumption)) (fun w27 hw27 => ?_)
      try clear hw26
      refine l_assign rfl rfl rfl ?_
      refine l_assign rfl rfl rfl ?_
      refine l_nil ?_
      refine e_then ?_
      refine c_keep [8, 19, 21] (.cons rfl (.cons rfl (.cons rfl .nil))) ?_
      refine c_seq ?_
      refine c_region ?_
      refine l_move rfl rfl rfl ?_
      refine l_callp rfl rfl Try.func13 rfl rfl (.cons rfl .nil) (numL _ (by omega) _) ?_
      refine l_eql rfl rfl rfl rfl ?_
      refine l_turn (s := 107) (v' := .bool true) rfl (by rw [decide_eq_true he1]) ?_
      refine l_move rfl rfl rfl ?_
      refine l_load_agg hw27 mem0 rfl rfl Try.underlying27 rfl tz27 rfl (.take (.take (.take (.take (.take .nil))))) ?_
      refine l_load_agg hw27 mem5 rfl rfl Try.underlying27 rfl tz27 rfl (.take (.take (.take (.take (.take .nil))))) ?_
      refine l_eqlA rfl rfl fl27 rfl rfl (.bool rfl rfl (.int rfl rfl (.int rfl rfl (.int rfl rfl (.bool rfl rfl .nil))))) ?_
      refine l_turn (s := 111) (v' := .bool true) rfl (by simp) ?_
      refine l_pick_t rfl rfl rfl rfl ?_
      refine l_move rfl rfl rfl ?_
      refine l_call rfl rfl Try.func15 rfl rfl .nil (wakesL w27) ?_
      rintro _ w28 ⟨rfl, hG⟩
      have hw28 := hG _ _ _ _ hw27
      try clear hG hw27
      simp only [List.cons_append, List.nil_append] at hw28
      refine l_turn (s := 114) (v' := .bool true) rfl (by rfl) ?_
      refine l_pick_t rfl rfl rfl rfl ?_
      refine l_assign rfl rfl rfl ?_
      refine l_nil ?_
      refine e_then ?_
      refine c_keep [4] (.cons rfl .nil) ?_
      refine c_ret ?_
      refine e_done1 Try.results4 rfl ?_
      refine ⟨_, rfl, ?_⟩
      have hw29 := St.del (.tail (.tail (.tail (.tail (.tail (.tail .head)))))) hw28
      try clear hw28
      have hw30 := St.del (.tail (.tail (.tail (.tail (.tail .head))))) hw29
      try clear hw29
      have hw31 := St.del (.tail (.tail (.tail (.tail .head)))) hw30
      try clear hw30
      have hw32 := St.del (.tail (.tail (.tail .head))) hw31
      try clear hw31
      have hw33 := St.del (.tail (.tail .head)) hw32
      try clear hw32
      have hw34 := St.del (.tail .head) hw33
      try clear hw33
      have hw35 := St.del .head hw34
      try clear hw34
      exact ⟨rfl, hw35.grows⟩
end Go.Proofs.Ytjkaahnadaapoaa.W
