/- walks of the document's scanner: lower, run, cut, begins, check, exponent, all -/
import Derived.Test.YtjkaahnadaapoaaSe
set_option linter.unusedVariables false
set_option linter.unusedSimpArgs false
set_option maxRecDepth 10000
namespace Go.Proofs.Ytjkaahnadaapoaa.W
open Go.Vc Go.RowKit

theorem add32 {c : UInt8} (h : 65 ≤ (c.toNat : Int) ∧ (c.toNat : Int) ≤ 90) : (c.toNat : Int) + 32 = ((lowc c).toNat : Int) := by
  have key : ∀ c : UInt8, 65 ≤ c.toNat ∧ c.toNat ≤ 90 → c.toNat + 32 = (lowc c).toNat := all8 (by decide +kernel)
  have := key c (by omega)
  omega
theorem no32 {c : UInt8} (h : ¬ (65 ≤ (c.toNat : Int) ∧ (c.toNat : Int) ≤ 90)) : c = lowc c := by unfold lowc; rw [if_neg (by omega)]
theorem low_snoc {s : L8} {k : Nat} (h : k < s.length) : low (s.take k) ++ [lowc (s.getD k 0)] = low (s.take (k + 1)) := by
  have e : s.getD k 0 = s[k] := by simp [List.getD, h]
  rw [List.take_succ_eq_append_getElem h, e]
  show (s.take k).map lowc ++ [lowc s[k]] = (s.take k ++ [s[k]]).map lowc
  rw [List.map_append]
  rfl
theorem str_one {c : UInt8} : bys [c] = [.int .u8 (c.toNat : Int)] := rfl
theorem e_or {c : UInt8} (h : ¬ (¬ (c.toNat : Int) = 101 ∧ ¬ (c.toNat : Int) = 69)) : c = 101 ∨ c = 69 := by
  by_cases h1 : (c.toNat : Int) = 101
  · exact .inl ((u8_eq (d := 101)).1 h1)
  · by_cases h2 : (c.toNat : Int) = 69
    · exact .inr ((u8_eq (d := 69)).1 h2)
    · exact absurd ⟨h1, h2⟩ h
theorem e_no {c : UInt8} (h : ¬ (c.toNat : Int) = 101 ∧ ¬ (c.toNat : Int) = 69) : ¬ c = 101 ∧ ¬ c = 69 := ⟨fun e => h.1 ((u8_eq (d := 101)).2 e), fun e => h.2 ((u8_eq (d := 69)).2 e)⟩
theorem ngb_nil {t : L8} (h : ¬ (¬ t = [] ∧ (((t.getD 0 0).toNat : Int) = 43 ∨ ((t.getD 0 0).toNat : Int) = 45))) : ngb t = false ∧ sg t 0 = 0 := by
  have h2 : ¬ ((0 : Int) < (t.length : Int) ∧ (((t.getD 0 0).toNat : Int) = 43 ∨ ((t.getD 0 0).toNat : Int) = 45)) := fun h3 => h ⟨fun e => by rw [e] at h3; simp at h3, h3.2⟩
  exact ⟨ngb_no h2, sg_no (fun h3 => h2 ⟨by omega, h3.2⟩)⟩
theorem ne_len {t : L8} (h : ¬ t = []) : 0 < t.length := List.length_pos_iff.2 h
theorem ext_at {i : Nat} (h : i < 12) : (exts.map str)[((i : Nat) : Int).toNat]? = some (str (exts.getD i [])) := by
  rw [Int.toNat_natCast, List.getElem?_map]
  have : i < exts.length := h
  simp [List.getD, this]
theorem ext_len {i : Nat} : (exts.getD i []).length ≤ 6 := by
  rcases Nat.lt_or_ge i 12 with h | h
  · have key : ∀ k : Fin 12, (exts.getD k.val []).length ≤ 6 := by decide
    exact key ⟨i, h⟩
  · have : exts.getD i [] = [] := by
      have : exts.length ≤ i := h
      simp [List.getD, this]
    rw [this]; simp
theorem expo_keep : ∀ (b a : L8), (∀ x ∈ b, isD x) → expo a = 99999 → expo (a ++ b) = 99999
  | [], a, _, h => by simpa using h
  | c :: b, a, hd, h => by
    have hc := hd c (.head _)
    unfold isD at hc
    have := expo_keep b (a ++ [c]) (fun x hx => hd x (.tail _ hx)) (by rw [expo_snoc, h]; omega)
    simpa using this
theorem expo_next {E : L8} {k : Nat} (h : k < E.length) : expo (E.take (k + 1)) = min (10 * expo (E.take k) + (((E.getD k 0).toNat : Int) - 48)) 99999 := by
  have e : E.getD k 0 = E[k] := by simp [List.getD, h]
  rw [List.take_succ_eq_append_getElem h, expo_snoc, e]
theorem RC.form {t : L8} {ng en : Bool} {wd : Int} {W F E : L8} (h : RC t ng wd W F en E false) (hl : t.length ≤ 1024) {n : Nat} (hn : n ≤ t.length) (h1 : ¬ st t n = 19) (h2 : n < t.length → st t (n + 1) = 19) : ReadR t false 0 [] [] 0 (n : Int) 81 := by
  obtain ⟨_, _, _, _, _, a, hc, _⟩ := h.cut
  obtain ⟨m, rfl, hm, h3, h4, _⟩ := hc.state
  have : m = n := by
    rcases Nat.lt_trichotomy m n with h | h | h
    · exact absurd (st_mono (h4 (by omega)) (by omega)) h1
    · exact h
    · exact absurd (st_mono (h2 (by omega)) (by omega)) h3
  subst this
  exact .form hl hc
/-- what the document's look at a text tells -/
inductive ChkR (t : L8) : Bool → Int → L8 → L8 → Bool → L8 → Int → Int → Prop
  | long (h : 1024 < t.length) : ChkR t false 0 [] [] false [] 0 80
  | ok {ng en : Bool} {wd : Int} {W F E : L8} (h : t.length ≤ 1024) (hc : RC t ng wd W F en E true) : ChkR t ng wd W F en E 0 0
  | form {p : Int} (h : ReadR t false 0 [] [] 0 p 81) : ChkR t false 0 [] [] false [] p 81

theorem lower8 (s : L8) (hL : s.length ≤ 1099511627776) (w : World) :
    CallsV P 59 [str s] w fun r w' => r = str (low s) ∧ Grow w w' [] := by
  refine enterW Try.func59 rfl Try.ntmps59 rfl ?_
  have hw0 := St.start w
  refine c_seq ?_
  refine c_region ?_
  refine l_assign rfl rfl rfl ?_
  refine l_nil ?_
  refine e_then ?_
  refine c_keep [0] (.cons rfl .nil) ?_
  refine c_seq ?_
  refine c_region ?_
  refine l_assign rfl rfl rfl ?_
  refine l_nil ?_
  refine e_then ?_
  refine c_seq ?_
  refine c_seq ?_
  refine c_region ?_
  refine l_assign rfl rfl rfl ?_
  refine l_nil ?_
  refine e_then ?_
  refine c_block ?_
  refine c_loopk (ι := Nat) (fun (k : Nat) => s.length - k) (fun (k : Nat) (w' : World) => St w w.heap.size None' ([]) w' ∧ k ≤ s.length) (fun (k : Nat) => [(3, str (low (s.take k))), (4, .int .i64 (k : Int))]) [0] (0) ?_ (.cons rfl .nil) ?_ ?_
  · exact ⟨hw0, by omega⟩
  · exact (.cons rfl (by first | rfl | (refine congrArg (Value.int _) ?_; omega)) (.cons rfl (by first | rfl | (refine congrArg (Value.int _) ?_; omega)) .nil))
  rintro k w1 ⟨hw1, hk⟩
  show RunC P _ _ _ (_ :: _) _
  refine c_seq ?_
  refine c_seq ?_
  refine c_region ?_
  refine l_move rfl rfl rfl ?_
  refine l_move rfl rfl rfl ?_
  refine l_lenstr rfl rfl Try.underlying9 rfl ?_
  refine l_lss rfl rfl rfl rfl ?_
  refine l_nil ?_
  refine e_then ?_
  refine c_keep [0, 3, 4, 9] (.cons rfl (.cons rfl (.cons rfl (.cons rfl .nil)))) ?_
  first | refine c_cond rfl (fun hc0 => ?_) (fun hc0 => ?_) | refine c_condb rfl (fun hc0 => ?_) (fun hc0 => ?_)
  · skip
    refine c_skip ?_
    refine e_then ?_
    refine c_keep [0, 3, 4] (.cons rfl (.cons rfl (.cons rfl .nil))) ?_
    refine c_seq ?_
    refine c_block ?_
    refine c_seq ?_
    refine c_region ?_
    refine l_move rfl rfl rfl ?_
    refine l_move rfl rfl rfl ?_
    refine v_gets (j := k) rfl rfl Try.underlying9 rfl rfl (by omega) (by first | omega | (simp; omega) | (simp; done)) (fun hb5_2 => ?_)
    refine l_assign rfl rfl rfl ?_
    refine l_nil ?_
    refine e_then ?_
    refine c_keep [0, 3, 4, 5] (.cons rfl (.cons rfl (.cons rfl (.cons rfl .nil)))) ?_
    refine c_cutk (ι := UInt8) (fun (lc : UInt8) (w' : World) => St w w.heap.size None' ([]) w' ∧ lc = lowc (s.getD k 0)) (fun (lc : UInt8) => [(5, .int .u8 (lc.toNat : Int))]) [0, 3, 4] (.cons rfl (.cons rfl (.cons rfl .nil))) ?_ ?_
    · skip
      refine c_seq ?_
      refine c_region ?_
      refine l_move rfl rfl rfl ?_
      refine l_geq rfl rfl rfl rfl ?_
      refine l_move rfl rfl rfl ?_
      apply l_and 2 [0, 3, 4, 5] rfl rfl (.cons rfl (.cons rfl (.cons rfl (.cons rfl (.cons rfl .nil))))) rfl rfl (fun _ => rfl) rfl rfl rfl
      · intro hg6_3
        refine l_move rfl rfl rfl ?_
        refine l_leq rfl rfl rfl rfl ?_
        refine l_nil ?_
        exact e_stays rfl (.cons rfl (congrArg Value.bool (decide_eq_true hg6_3).symm) (.cons rfl rfl (.cons rfl rfl (.cons rfl rfl (.cons rfl rfl .nil)))))
      refine l_nil ?_
      refine e_then ?_
      refine c_keep [0, 3, 4, 5, 20] (.cons rfl (.cons rfl (.cons rfl (.cons rfl (.cons rfl .nil))))) ?_
      first | refine c_cond rfl (fun hc1 => ?_) (fun hc1 => ?_) | refine c_condb rfl (fun hc1 => ?_) (fun hc1 => ?_)
      · skip
        refine c_region ?_
        refine l_move rfl rfl rfl ?_
        refine l_add rfl rfl rfl rfl (w_u8 (by omega)) ?_
        refine l_assign rfl rfl rfl ?_
        refine l_nil ?_
        refine e_meetk (lowc (s.getD k 0)) ?_ (.cons rfl (.cons rfl (.cons rfl .nil))) ?_
        · exact ⟨hw1, rfl⟩
        · exact (.cons rfl (by first | rfl | exact congrArg (Value.int .u8) (add32 hc1)) .nil)
      · skip
        refine c_skip ?_
        refine e_meetk (s.getD k 0) ?_ (.cons rfl (.cons rfl (.cons rfl .nil))) ?_
        · exact ⟨hw1, no32 hc1⟩
        · exact (.cons rfl (by first | rfl | exact congrArg (Value.int .u8) (add32 hc1)) .nil)
    rintro lc w2 ⟨hw2, hlc⟩
    show RunC P _ _ _ (_ :: _) _
    refine c_region ?_
    have hlk : (low (s.take k)).length ≤ s.length := by simp [low]; omega
    refine l_move rfl rfl rfl ?_
    refine l_move rfl rfl rfl ?_
    refine v_lit hw2 rfl rfl Try.underlying22 ti5 rfl (.cons rfl (by first | rfl | assumption) .nil) rfl rfl rfl (fun b8_2 w3 hw3 => ?_)
    try clear hw2
    refine v_tostr (l := [lc]) rfl rfl Try.underlying22 Try.underlying5 Try.underlying9 rfl (by first | exact hw3.ibl mem0 | assumption) ?_
    refine l_adds rfl rfl rfl rfl (by first | omega | (simp only [List.length_append, List.length_cons, List.length_nil] at *; omega)) ?_
    refine l_assign rfl rfl rfl ?_
    refine l_nil ?_
    refine e_blk ?_
    refine e_then ?_
    refine c_keep [0, 3, 4] (.cons rfl (.cons rfl (.cons rfl .nil))) ?_
    refine c_region ?_
    refine l_move rfl rfl rfl ?_
    refine l_add rfl rfl rfl rfl (w_i64 (by omega)) ?_
    refine l_assign rfl rfl rfl ?_
    refine l_nil ?_
    have hw4 := St.del .head hw3
    try clear hw3
    refine e_againk (i := (k)) (k + 1) ?_ ?_ (.cons rfl .nil) ?_
    · first | omega | (simp; omega)
    · exact ⟨hw4, by omega⟩
    · exact (.cons rfl (by rw [hlc, low_snoc (by omega)]) (.cons rfl (by first | rfl | (refine congrArg (Value.int _) ?_; omega)) .nil))
  · skip
    refine c_exit ?_
    refine e_then_exit ?_
    refine e_then_exit ?_
    refine e_blk_exit ?_
    refine e_then ?_
    refine c_keep [3] (.cons rfl .nil) ?_
    refine c_seq ?_
    refine c_region ?_
    refine l_move rfl rfl rfl ?_
    refine l_assign rfl rfl rfl ?_
    refine l_nil ?_
    refine e_then ?_
    refine c_keep [2] (.cons rfl .nil) ?_
    refine c_ret ?_
    refine e_done1 Try.results59 rfl ?_
    refine ⟨_, rfl, ?_⟩
    obtain rfl : k = s.length := by omega
    exact ⟨by rw [List.take_length], hw1.grows⟩
theorem run8 (s : L8) (hL : s.length ≤ 1099511627776) (w : World) :
    CallsV P 60 [str s] w fun r w' => r = .tuple #[str (s.take (run s)), str (s.drop (run s))] ∧ Grow w w' [] := by
  refine enterW Try.func60 rfl Try.ntmps60 rfl ?_
  have hw0 := St.start w
  refine c_seq ?_
  refine c_region ?_
  refine l_assign rfl rfl rfl ?_
  refine l_assign rfl rfl rfl ?_
  refine l_nil ?_
  refine e_then ?_
  refine c_keep [0] (.cons rfl .nil) ?_
  refine c_seq ?_
  refine c_region ?_
  refine l_move rfl rfl rfl ?_
  refine v_tobytes hw0 rfl rfl Try.underlying9 Try.underlying22 Try.underlying5 rfl (fun v1_1 w1 hw1 => ?_)
  try clear hw0
  refine l_callp rfl rfl Try.func49 rfl rfl (.cons rfl (.cons rfl .nil)) (run_ref04 _ s (by omega) 0 (by omega) w1 (hw1.ii mem0)) ?_
  refine l_assign rfl rfl rfl ?_
  refine l_nil ?_
  refine e_then ?_
  refine c_keep [0, 4] (.cons rfl (.cons rfl .nil)) ?_
  refine c_seq ?_
  refine c_still (by kernel_rfl) (by kernel_rfl) ?_
  have hw2 := hw1.drewn
  try clear hw1
  have hrl := run_le s
  refine l_move rfl rfl rfl ?_
  refine l_move rfl rfl rfl ?_
  refine l_slices (l := 0) (h := run s) rfl rfl Try.underlying9 rfl rfl rfl (by first | rfl | (simp; done) | (simp; omega)) (by first | rfl | (simp; done) | (simp; omega)) (by omega) (by first | omega | (simp; omega) | (simp; done)) ?_
  refine l_move rfl rfl rfl ?_
  refine l_move rfl rfl rfl ?_
  refine l_slices (l := run s) (h := s.length) rfl rfl Try.underlying9 rfl rfl rfl (by first | rfl | (simp; done) | (simp; omega)) (by first | rfl | (simp; done) | (simp; omega)) (by omega) (by first | omega | (simp; omega) | (simp; done)) ?_
  refine l_assign rfl rfl rfl ?_
  refine l_assign rfl rfl rfl ?_
  refine l_nil ?_
  refine e_then ?_
  refine c_keep [2, 3] (.cons rfl (.cons rfl .nil)) ?_
  refine c_ret ?_
  refine e_done2 Try.results60 rfl rfl ?_
  refine ⟨_, rfl, ?_⟩
  have hw3 := St.del .head hw2
  try clear hw2
  exact ⟨by rw [List.drop_zero, List.take_length], hw3.grows⟩
theorem cut8 (s : L8) (hL : s.length ≤ 1099511627776) (w : World) :
    CallsV P 47 [str s] w fun r w' => ∃ ng wd W F en E ok, r = .tuple #[.agg #[.bool ng, .int .i64 wd, str W, str F, .bool en, str E], .bool ok] ∧ RC s ng wd W F en E ok ∧ Grow w w' [] := by
  refine enterW Try.func47 rfl Try.ntmps47 rfl ?_
  have hw0 := St.start w
  refine c_seq ?_
  refine c_region ?_
  refine l_alloc hw0 ta69 rfl rfl (fun b0_0 w1 hw1 => ?_)
  try clear hw0
  refine l_assign rfl rfl rfl ?_
  refine l_nil ?_
  refine e_then ?_
  refine c_keep [0, 2] (.cons rfl (.cons rfl .nil)) ?_
  refine c_seq ?_
  refine c_region ?_
  refine l_alloc hw1 ta69 rfl rfl (fun b1_0 w2 hw2 => ?_)
  try clear hw1
  refine l_nil ?_
  refine e_then ?_
  refine c_cutk (ι := L8 × Bool) (fun (z0 : L8 × Bool) (w' : World) => match z0 with | ⟨b, ng⟩ => St w w.heap.size None' ([As.blk b1_0 69 [.bool ng, .int .i64 0, str [], str [], .bool false, str []], As.blk b0_0 69 [.bool false, .int .i64 0, str [], str [], .bool false, str []]]) w' ∧ b = s.drop (sg s 0) ∧ ng = ngb s) (fun (z0 : L8 × Bool) => match z0 with | ⟨b, ng⟩ => [(0, str b)]) [2, 4] (.cons rfl (.cons rfl .nil)) ?_ ?_
  · skip
    refine c_seq ?_
    refine c_region ?_
    refine l_move rfl rfl rfl ?_
    refine l_neqs rfl rfl rfl rfl ?_
    refine l_move rfl rfl rfl ?_
    apply l_and 8 [0, 2, 4] rfl rfl (.cons rfl (.cons rfl (.cons rfl (.cons rfl .nil)))) rfl rfl (fun _ => rfl) rfl rfl rfl
    · intro hg2_3
      refine l_move rfl rfl rfl ?_
      have h0 := ne_len hg2_3
      refine v_gets (j := 0) rfl rfl Try.underlying9 rfl rfl (by omega) (by first | omega | (simp; omega) | (simp; done)) (fun hb2_4 => ?_)
      refine l_eql rfl rfl rfl rfl ?_
      refine l_move rfl rfl rfl ?_
      apply l_or 3 [0, 2, 4, 7] rfl rfl (.cons rfl (.cons rfl (.cons rfl (.cons rfl (.cons rfl .nil))))) rfl rfl (fun _ => rfl) rfl rfl rfl
      · intro hg2_7
        refine l_move rfl rfl rfl ?_
        have h0 := ne_len hg2_3
        refine v_gets (j := 0) rfl rfl Try.underlying9 rfl rfl (by omega) (by first | omega | (simp; omega) | (simp; done)) (fun hb2_8 => ?_)
        refine l_eql rfl rfl rfl rfl ?_
        refine l_nil ?_
        exact e_stays rfl (.cons rfl (congrArg Value.bool (decide_eq_false hg2_7).symm) (.cons rfl rfl (.cons rfl rfl (.cons rfl rfl (.cons rfl rfl .nil)))))
      refine l_nil ?_
      exact e_stays rfl (.cons rfl (congrArg Value.bool (decide_eq_true hg2_3).symm) (.cons rfl rfl (.cons rfl rfl (.cons rfl rfl .nil))))
    refine l_nil ?_
    refine e_then ?_
    refine c_keep [0, 2, 4, 16] (.cons rfl (.cons rfl (.cons rfl (.cons rfl .nil)))) ?_
    first | refine c_cond rfl (fun hc0 => ?_) (fun hc0 => ?_) | refine c_condb rfl (fun hc0 => ?_) (fun hc0 => ?_)
    · skip
      refine c_seq ?_
      refine c_region ?_
      refine l_move rfl rfl rfl ?_
      have h0 := ne_len hc0.1
      refine v_gets (j := 0) rfl rfl Try.underlying9 rfl rfl (by omega) (by first | omega | (simp; omega) | (simp; done)) (fun hb3_1 => ?_)
      refine l_eql rfl rfl rfl rfl ?_
      refine l_field fo69_0 rfl rfl rfl ?_
      refine l_store_blk hw2 .head (by repeat (first | exact .zero | apply SetAt.succ)) rfl tz4 rfl rfl (by first | rfl | assumption) (fun w3 hw3 => ?_)
      try clear hw2
      refine l_nil ?_
      refine e_then ?_
      refine c_keep [0, 2, 4] (.cons rfl (.cons rfl (.cons rfl .nil))) ?_
      refine c_region ?_
      refine l_move rfl rfl rfl ?_
      have h0 := ne_len hc0.1
      refine l_slices (l := 1) (h := s.length) rfl rfl Try.underlying9 rfl rfl rfl (by first | rfl | (simp; done) | (simp; omega)) (by first | rfl | (simp; done) | (simp; omega)) (by omega) (by first | omega | (simp; omega) | (simp; done)) ?_
      refine l_turn (s := 22) (v' := str (s.drop 1)) rfl (by rw [List.take_length]) ?_
      refine l_assign rfl rfl rfl ?_
      refine l_nil ?_
      refine e_meetk (s.drop 1, decide (((s.getD 0 0).toNat : Int) = 45)) ?_ (.cons rfl (.cons rfl .nil)) ?_
      · exact ⟨hw3, by rw [sg_yes (ne_len hc0.1) hc0.2], rfl⟩
      · exact (.cons rfl (by first | rfl | (refine congrArg (Value.int _) ?_; omega)) .nil)
    · skip
      refine c_skip ?_
      refine e_meetk (s, false) ?_ (.cons rfl (.cons rfl .nil)) ?_
      · exact ⟨hw2, by rw [(ngb_nil hc0).2]; rfl, (ngb_nil hc0).1.symm⟩
      · exact (.cons rfl (by first | rfl | (refine congrArg (Value.int _) ?_; omega)) .nil)
  rintro ⟨b, ng⟩ w4 ⟨hw4, hb, hng⟩
  show RunC P _ _ _ (_ :: _) _
  refine c_cutk (ι := Unit) (fun (z : Unit) (w' : World) => St w w.heap.size None' ([As.blk b1_0 69 [.bool ng, .int .i64 0, str [], str [], .bool false, str []], As.blk b0_0 69 [.bool false, .int .i64 0, str [], str [], .bool false, str []]]) w' ∧ ¬ isWord b) (fun (z : Unit) => []) [0, 2, 4] (.cons rfl (.cons rfl (.cons rfl .nil))) ?_ ?_
  · skip
    refine c_seq ?_
    refine c_region ?_
    have hbl : b.length ≤ s.length := by rw [hb, List.length_drop]; omega
    refine l_move rfl rfl rfl ?_
    refine l_lenstr rfl rfl Try.underlying9 rfl ?_
    refine l_eql rfl rfl rfl rfl ?_
    refine l_move rfl rfl rfl ?_
    apply l_or 3 [0, 2, 4] rfl rfl (.cons rfl (.cons rfl (.cons rfl (.cons rfl .nil)))) rfl rfl (fun _ => rfl) rfl rfl rfl
    · intro hg5_4
      refine l_move rfl rfl rfl ?_
      refine l_lenstr rfl rfl Try.underlying9 rfl ?_
      refine l_eql rfl rfl rfl rfl ?_
      refine l_nil ?_
      exact e_stays rfl (.cons rfl (congrArg Value.bool (decide_eq_false hg5_4).symm) (.cons rfl rfl (.cons rfl rfl (.cons rfl rfl .nil))))
    refine l_nil ?_
    refine e_then ?_
    refine c_keep [0, 2, 4, 30] (.cons rfl (.cons rfl (.cons rfl (.cons rfl .nil)))) ?_
    first | refine c_cond rfl (fun hc1 => ?_) (fun hc1 => ?_) | refine c_condb rfl (fun hc1 => ?_) (fun hc1 => ?_)
    · skip
      refine c_seq ?_
      refine c_region ?_
      refine l_move rfl rfl rfl ?_
      refine l_call rfl rfl Try.func59 rfl rfl (.cons rfl .nil) (lower8 b (by omega) w4) ?_
      rintro _ w5 ⟨rfl, hG⟩
      have hw5 := hG _ _ _ _ hw4
      try clear hG hw4
      simp only [List.cons_append, List.nil_append] at hw5
      refine l_nil ?_
      refine e_then ?_
      refine c_keep [0, 2, 4, 32] (.cons rfl (.cons rfl (.cons rfl (.cons rfl .nil)))) ?_
      refine c_block ?_
      refine c_seq ?_
      refine c_seq ?_
      refine c_region ?_
      refine l_eqls rfl rfl rfl rfl ?_
      refine l_assign rfl rfl rfl ?_
      refine l_nil ?_
      refine e_then ?_
      refine c_keep [0, 2, 4, 32, 33] (.cons rfl (.cons rfl (.cons rfl (.cons rfl (.cons rfl .nil))))) ?_
      first | refine c_cond rfl (fun hc2 => ?_) (fun hc2 => ?_) | refine c_condb rfl (fun hc2 => ?_) (fun hc2 => ?_)
      · skip
        refine c_skip ?_
        refine e_then ?_
        first | refine c_cond rfl (fun hc3 => ?_) (fun hc3 => ?_) | refine c_condb rfl (fun hc3 => ?_) (fun hc3 => ?_)
        · skip
          refine c_seq ?_
          refine c_region ?_
          refine l_field fo69_1 rfl rfl rfl ?_
          refine l_store_blk hw5 .head (by repeat (first | exact .zero | apply SetAt.succ)) rfl tz3 rfl rfl (by first | rfl | assumption) (fun w6 hw6 => ?_)
          try clear hw5
          refine l_nil ?_
          refine e_then ?_
          refine c_keep [2, 4] (.cons rfl (.cons rfl .nil)) ?_
          refine c_seq ?_
          refine c_region ?_
          refine l_load_agg hw6 mem0 rfl rfl Try.underlying69 rfl tz69 rfl (.take (.take (.take (.take (.take (.take .nil)))))) ?_
          refine l_store_blks hw6 (.tail .head) (.zero (.zero (.zero (.zero (.zero (.zero .nil)))))) rfl tz69 rfl rfl (by first | (simp [Value.oneCell']; done) | (intro u hu; simp only [List.mem_cons, List.not_mem_nil, or_false] at hu; rcases hu with rfl | rfl | rfl | rfl | rfl | rfl <;> first | rfl | assumption)) (fun w7 hw7 => ?_)
          try clear hw6
          refine l_assign rfl rfl rfl ?_
          refine l_nil ?_
          refine e_then ?_
          refine c_keep [2, 3] (.cons rfl (.cons rfl .nil)) ?_
          refine c_ret ?_
          refine e_blk_ret ?_
          refine e_then_ret ?_
          refine e_doneN Try.results47 (.cell rfl (load_agg_run hw7 mem1 Try.underlying69 rfl tz69 (.take (.take (.take (.take (.take (.take .nil))))))) (.tmp rfl .nil)) rfl ?_
          refine ⟨_, rfl, ?_⟩
          have hw8 := St.del (.tail .head) hw7
          try clear hw7
          have hw9 := St.del .head hw8
          try clear hw8
          subst hng
          exact ⟨_, _, _, _, _, _, _, rfl, .inf hb (by omega) (by first | exact .inl ‹_› | exact .inr ‹_›), hw9.grows⟩
        · skip
          exact absurd hc2 hc3
      · skip
        refine c_region ?_
        refine l_eqls rfl rfl rfl rfl ?_
        refine l_assign rfl rfl rfl ?_
        refine l_nil ?_
        refine e_then ?_
        refine c_keep [0, 2, 4, 32, 33] (.cons rfl (.cons rfl (.cons rfl (.cons rfl (.cons rfl .nil))))) ?_
        first | refine c_cond rfl (fun hc4 => ?_) (fun hc4 => ?_) | refine c_condb rfl (fun hc4 => ?_) (fun hc4 => ?_)
        · skip
          refine c_seq ?_
          refine c_region ?_
          refine l_field fo69_1 rfl rfl rfl ?_
          refine l_store_blk hw5 .head (by repeat (first | exact .zero | apply SetAt.succ)) rfl tz3 rfl rfl (by first | rfl | assumption) (fun w10 hw10 => ?_)
          try clear hw5
          refine l_nil ?_
          refine e_then ?_
          refine c_keep [2, 4] (.cons rfl (.cons rfl .nil)) ?_
          refine c_seq ?_
          refine c_region ?_
          refine l_load_agg hw10 mem0 rfl rfl Try.underlying69 rfl tz69 rfl (.take (.take (.take (.take (.take (.take .nil)))))) ?_
          refine l_store_blks hw10 (.tail .head) (.zero (.zero (.zero (.zero (.zero (.zero .nil)))))) rfl tz69 rfl rfl (by first | (simp [Value.oneCell']; done) | (intro u hu; simp only [List.mem_cons, List.not_mem_nil, or_false] at hu; rcases hu with rfl | rfl | rfl | rfl | rfl | rfl <;> first | rfl | assumption)) (fun w11 hw11 => ?_)
          try clear hw10
          refine l_assign rfl rfl rfl ?_
          refine l_nil ?_
          refine e_then ?_
          refine c_keep [2, 3] (.cons rfl (.cons rfl .nil)) ?_
          refine c_ret ?_
          refine e_blk_ret ?_
          refine e_then_ret ?_
          refine e_doneN Try.results47 (.cell rfl (load_agg_run hw11 mem1 Try.underlying69 rfl tz69 (.take (.take (.take (.take (.take (.take .nil))))))) (.tmp rfl .nil)) rfl ?_
          refine ⟨_, rfl, ?_⟩
          have hw12 := St.del (.tail .head) hw11
          try clear hw11
          have hw13 := St.del .head hw12
          try clear hw12
          subst hng
          exact ⟨_, _, _, _, _, _, _, rfl, .inf hb (by omega) (by first | exact .inl ‹_› | exact .inr ‹_›), hw13.grows⟩
        · skip
          refine c_seq ?_
          refine c_region ?_
          refine l_eqls rfl rfl rfl rfl ?_
          refine l_assign rfl rfl rfl ?_
          refine l_nil ?_
          refine e_then ?_
          refine c_keep [0, 2, 4, 38] (.cons rfl (.cons rfl (.cons rfl (.cons rfl .nil)))) ?_
          first | refine c_cond rfl (fun hc5 => ?_) (fun hc5 => ?_) | refine c_condb rfl (fun hc5 => ?_) (fun hc5 => ?_)
          · skip
            refine c_seq ?_
            refine c_region ?_
            refine l_field fo69_1 rfl rfl rfl ?_
            refine l_store_blk hw5 .head (by repeat (first | exact .zero | apply SetAt.succ)) rfl tz3 rfl rfl (by first | rfl | assumption) (fun w14 hw14 => ?_)
            try clear hw5
            refine l_nil ?_
            refine e_then ?_
            refine c_keep [2, 4] (.cons rfl (.cons rfl .nil)) ?_
            refine c_seq ?_
            refine c_region ?_
            refine l_field fo69_0 rfl rfl rfl ?_
            refine l_store_blk hw14 .head (by repeat (first | exact .zero | apply SetAt.succ)) rfl tz4 rfl rfl (by first | rfl | assumption) (fun w15 hw15 => ?_)
            try clear hw14
            refine l_nil ?_
            refine e_then ?_
            refine c_keep [2, 4] (.cons rfl (.cons rfl .nil)) ?_
            refine c_seq ?_
            refine c_region ?_
            refine l_load_agg hw15 mem0 rfl rfl Try.underlying69 rfl tz69 rfl (.take (.take (.take (.take (.take (.take .nil)))))) ?_
            refine l_store_blks hw15 (.tail .head) (.zero (.zero (.zero (.zero (.zero (.zero .nil)))))) rfl tz69 rfl rfl (by first | (simp [Value.oneCell']; done) | (intro u hu; simp only [List.mem_cons, List.not_mem_nil, or_false] at hu; rcases hu with rfl | rfl | rfl | rfl | rfl | rfl <;> first | rfl | assumption)) (fun w16 hw16 => ?_)
            try clear hw15
            refine l_assign rfl rfl rfl ?_
            refine l_nil ?_
            refine e_then ?_
            refine c_keep [2, 3] (.cons rfl (.cons rfl .nil)) ?_
            refine c_ret ?_
            refine e_blk_ret ?_
            refine e_then_ret ?_
            refine e_doneN Try.results47 (.cell rfl (load_agg_run hw16 mem1 Try.underlying69 rfl tz69 (.take (.take (.take (.take (.take (.take .nil))))))) (.tmp rfl .nil)) rfl ?_
            refine ⟨_, rfl, ?_⟩
            have hw17 := St.del (.tail .head) hw16
            try clear hw16
            have hw18 := St.del .head hw17
            try clear hw17
            exact ⟨_, _, _, _, _, _, _, rfl, .nan hb (by omega) (by assumption), hw18.grows⟩
          · skip
            refine c_skip ?_
            refine e_blk ?_
            refine e_meetk (()) ?_ (.cons rfl (.cons rfl (.cons rfl .nil))) ?_
            · exact ⟨hw5, fun h => by rcases h.2 with (h | h) | h <;> contradiction⟩
            · exact .nil
    · skip
      refine c_skip ?_
      refine e_meetk (()) ?_ (.cons rfl (.cons rfl (.cons rfl .nil))) ?_
      · exact ⟨hw4, fun h => by have := h.1; omega⟩
      · exact .nil
  rintro z w19 ⟨hw19, hw⟩
  refine c_seq ?_
  refine c_region ?_
  have hbl : b.length ≤ s.length := by rw [hb, List.length_drop]; omega
  refine l_move rfl rfl rfl ?_
  refine l_call rfl rfl Try.func60 rfl rfl (.cons rfl .nil) (run8 b (by omega) w19) ?_
  rintro _ w20 ⟨rfl, hG⟩
  have hw20 := hG _ _ _ _ hw19
  try clear hG hw19
  simp only [List.cons_append, List.nil_append] at hw20
  refine l_move rfl rfl rfl ?_
  refine l_extract rfl rfl rfl rfl ?_
  refine l_extract rfl rfl rfl rfl ?_
  refine l_field fo69_2 rfl rfl rfl ?_
  refine l_store_blk hw20 .head (by repeat (first | exact .zero | apply SetAt.succ)) rfl tz9 rfl rfl (by first | rfl | assumption) (fun w21 hw21 => ?_)
  try clear hw20
  refine l_assign rfl rfl rfl ?_
  refine l_nil ?_
  refine e_then ?_
  refine c_keep [0, 2, 4] (.cons rfl (.cons rfl (.cons rfl .nil))) ?_
  refine c_cutk (ι := L8 × L8) (fun (z0 : L8 × L8) (w' : World) => match z0 with | ⟨F, R⟩ => St w w.heap.size None' ([As.blk b1_0 69 [.bool ng, .int .i64 0, str (b.take (run b)), str F, .bool false, str []], As.blk b0_0 69 [.bool false, .int .i64 0, str [], str [], .bool false, str []]]) w' ∧ Fs (b.drop (run b)) F R ∧ R.length ≤ s.length) (fun (z0 : L8 × L8) => match z0 with | ⟨F, R⟩ => [(0, str R)]) [2, 4] (.cons rfl (.cons rfl .nil)) ?_ ?_
  · skip
    refine c_seq ?_
    refine c_region ?_
    have hbl : b.length ≤ s.length := by rw [hb, List.length_drop]; omega
    refine l_move rfl rfl rfl ?_
    refine l_neqs rfl rfl rfl rfl ?_
    refine l_move rfl rfl rfl ?_
    apply l_and 3 [0, 2, 4] rfl rfl (.cons rfl (.cons rfl (.cons rfl (.cons rfl .nil)))) rfl rfl (fun _ => rfl) rfl rfl rfl
    · intro hg16_3
      refine l_move rfl rfl rfl ?_
      have h0 := ne_len hg16_3
      refine v_gets (j := 0) rfl rfl Try.underlying9 rfl rfl (by omega) (by first | omega | (simp; omega) | (simp; done)) (fun hb16_4 => ?_)
      refine l_eql rfl rfl rfl rfl ?_
      refine l_nil ?_
      exact e_stays rfl (.cons rfl (congrArg Value.bool (decide_eq_true hg16_3).symm) (.cons rfl rfl (.cons rfl rfl (.cons rfl rfl .nil))))
    refine l_nil ?_
    refine e_then ?_
    refine c_keep [0, 2, 4, 55] (.cons rfl (.cons rfl (.cons rfl (.cons rfl .nil)))) ?_
    first | refine c_cond rfl (fun hc6 => ?_) (fun hc6 => ?_) | refine c_condb rfl (fun hc6 => ?_) (fun hc6 => ?_)
    · skip
      refine c_region ?_
      refine l_move rfl rfl rfl ?_
      have h0 := ne_len hc6.1
      refine l_slices (l := 1) (h := (b.drop (run b)).length) rfl rfl Try.underlying9 rfl rfl rfl (by first | rfl | (simp; done) | (simp; omega)) (by first | rfl | (simp; done) | (simp; omega)) (by omega) (by first | omega | (simp; omega) | (simp; done)) ?_
      refine l_turn (s := 58) (v' := str ((b.drop (run b)).drop 1)) rfl (by rw [List.take_length]) ?_
      refine l_call rfl rfl Try.func60 rfl rfl (.cons rfl .nil) (run8 ((b.drop (run b)).drop 1) (by simp only [List.length_drop]; omega) w21) ?_
      rintro _ w22 ⟨rfl, hG⟩
      have hw22 := hG _ _ _ _ hw21
      try clear hG hw21
      simp only [List.cons_append, List.nil_append] at hw22
      refine l_move rfl rfl rfl ?_
      refine l_extract rfl rfl rfl rfl ?_
      refine l_extract rfl rfl rfl rfl ?_
      refine l_field fo69_3 rfl rfl rfl ?_
      refine l_store_blk hw22 .head (by repeat (first | exact .zero | apply SetAt.succ)) rfl tz9 rfl rfl (by first | rfl | assumption) (fun w23 hw23 => ?_)
      try clear hw22
      refine l_assign rfl rfl rfl ?_
      refine l_nil ?_
      refine e_meetk (((b.drop (run b)).drop 1).take (run ((b.drop (run b)).drop 1)), ((b.drop (run b)).drop 1).drop (run ((b.drop (run b)).drop 1))) ?_ (.cons rfl (.cons rfl .nil)) ?_
      · exact ⟨hw23, .yes hc6.1 (p46.1 hc6.2), by simp only [List.length_drop]; omega⟩
      · exact (.cons rfl (by first | rfl | (refine congrArg (Value.int _) ?_; omega)) .nil)
    · skip
      refine c_skip ?_
      refine e_meetk ([], b.drop (run b)) ?_ (.cons rfl (.cons rfl .nil)) ?_
      · exact ⟨hw21, .no (Classical.byContradiction fun h => hc6 ⟨fun e => h (.inl e), p46.2 (Classical.byContradiction fun h2 => h (.inr h2))⟩), by simp only [List.length_drop]; omega⟩
      · exact (.cons rfl (by first | rfl | (refine congrArg (Value.int _) ?_; omega)) .nil)
  rintro ⟨F, R⟩ w24 ⟨hw24, hf, hRl⟩
  show RunC P _ _ _ (_ :: _) _
  refine c_seq ?_
  refine c_seq ?_
  refine c_region ?_
  refine l_field fo69_2 rfl rfl rfl ?_
  refine l_load_blk hw24 mem0 rfl rfl Try.underlying9 rfl rfl rfl ?_
  refine l_eqls rfl rfl rfl rfl ?_
  refine l_move rfl rfl rfl ?_
  apply l_and 3 [0, 2, 4] rfl rfl (.cons rfl (.cons rfl (.cons rfl (.cons rfl .nil)))) rfl rfl (fun _ => rfl) rfl rfl rfl
  · intro hg18_4
    refine l_field fo69_3 rfl rfl rfl ?_
    refine l_load_blk hw24 mem0 rfl rfl Try.underlying9 rfl rfl rfl ?_
    refine l_eqls rfl rfl rfl rfl ?_
    refine l_nil ?_
    exact e_stays rfl (.cons rfl (congrArg Value.bool (decide_eq_true hg18_4).symm) (.cons rfl rfl (.cons rfl rfl (.cons rfl rfl .nil))))
  refine l_nil ?_
  refine e_then ?_
  refine c_keep [0, 2, 4, 70] (.cons rfl (.cons rfl (.cons rfl (.cons rfl .nil)))) ?_
  first | refine c_cond rfl (fun hc7 => ?_) (fun hc7 => ?_) | refine c_condb rfl (fun hc7 => ?_) (fun hc7 => ?_)
  · skip
    refine c_seq ?_
    refine c_region ?_
    refine l_load_agg hw24 mem0 rfl rfl Try.underlying69 rfl tz69 rfl (.take (.take (.take (.take (.take (.take .nil)))))) ?_
    refine l_store_blks hw24 (.tail .head) (.zero (.zero (.zero (.zero (.zero (.zero .nil)))))) rfl tz69 rfl rfl (by first | (simp [Value.oneCell']; done) | (intro u hu; simp only [List.mem_cons, List.not_mem_nil, or_false] at hu; rcases hu with rfl | rfl | rfl | rfl | rfl | rfl <;> first | rfl | assumption)) (fun w25 hw25 => ?_)
    try clear hw24
    refine l_assign rfl rfl rfl ?_
    refine l_nil ?_
    refine e_then ?_
    refine c_keep [2, 3] (.cons rfl (.cons rfl .nil)) ?_
    refine c_ret ?_
    refine e_then_ret ?_
    refine e_doneN Try.results47 (.cell rfl (load_agg_run hw25 mem1 Try.underlying69 rfl tz69 (.take (.take (.take (.take (.take (.take .nil))))))) (.tmp rfl .nil)) rfl ?_
    refine ⟨_, rfl, ?_⟩
    have hw26 := St.del (.tail .head) hw25
    try clear hw25
    have hw27 := St.del .head hw26
    try clear hw26
    exact ⟨_, _, _, _, _, _, _, rfl, .none hb hw hf hc7, hw27.grows⟩
  · skip
    refine c_skip ?_
    refine e_then ?_
    refine c_keep [0, 2, 4] (.cons rfl (.cons rfl (.cons rfl .nil))) ?_
    refine c_seq ?_
    refine c_seq ?_
    refine c_region ?_
    refine l_move rfl rfl rfl ?_
    refine l_eqls rfl rfl rfl rfl ?_
    refine l_nil ?_
    refine e_then ?_
    refine c_keep [0, 2, 4, 73] (.cons rfl (.cons rfl (.cons rfl (.cons rfl .nil)))) ?_
    first | refine c_cond rfl (fun hc8 => ?_) (fun hc8 => ?_) | refine c_condb rfl (fun hc8 => ?_) (fun hc8 => ?_)
    · skip
      refine c_seq ?_
      refine c_region ?_
      refine l_load_agg hw24 mem0 rfl rfl Try.underlying69 rfl tz69 rfl (.take (.take (.take (.take (.take (.take .nil)))))) ?_
      refine l_store_blks hw24 (.tail .head) (.zero (.zero (.zero (.zero (.zero (.zero .nil)))))) rfl tz69 rfl rfl (by first | (simp [Value.oneCell']; done) | (intro u hu; simp only [List.mem_cons, List.not_mem_nil, or_false] at hu; rcases hu with rfl | rfl | rfl | rfl | rfl | rfl <;> first | rfl | assumption)) (fun w28 hw28 => ?_)
      try clear hw24
      refine l_assign rfl rfl rfl ?_
      refine l_nil ?_
      refine e_then ?_
      refine c_keep [2, 3] (.cons rfl (.cons rfl .nil)) ?_
      refine c_ret ?_
      refine e_then_ret ?_
      refine e_doneN Try.results47 (.cell rfl (load_agg_run hw28 mem1 Try.underlying69 rfl tz69 (.take (.take (.take (.take (.take (.take .nil))))))) (.tmp rfl .nil)) rfl ?_
      refine ⟨_, rfl, ?_⟩
      have hw29 := St.del (.tail .head) hw28
      try clear hw28
      have hw30 := St.del .head hw29
      try clear hw29
      subst hng
      exact ⟨_, _, _, _, _, _, _, rfl, .plain hb hw hf hc7 hc8, hw30.grows⟩
    · skip
      refine c_skip ?_
      refine e_then ?_
      refine c_keep [0, 2, 4] (.cons rfl (.cons rfl (.cons rfl .nil))) ?_
      refine c_seq ?_
      refine c_seq ?_
      refine c_region ?_
      refine l_move rfl rfl rfl ?_
      have h0 := ne_len hc8
      refine v_gets (j := 0) rfl rfl Try.underlying9 rfl rfl (by omega) (by first | omega | (simp; omega) | (simp; done)) (fun hb22_1 => ?_)
      refine l_neq rfl rfl rfl rfl ?_
      refine l_move rfl rfl rfl ?_
      apply l_and 3 [0, 2, 4] rfl rfl (.cons rfl (.cons rfl (.cons rfl (.cons rfl .nil)))) rfl rfl (fun _ => rfl) rfl rfl rfl
      · intro hg22_4
        refine l_move rfl rfl rfl ?_
        have h0 := ne_len hc8
        refine v_gets (j := 0) rfl rfl Try.underlying9 rfl rfl (by omega) (by first | omega | (simp; omega) | (simp; done)) (fun hb22_5 => ?_)
        refine l_neq rfl rfl rfl rfl ?_
        refine l_nil ?_
        exact e_stays rfl (.cons rfl (congrArg Value.bool (decide_eq_true hg22_4).symm) (.cons rfl rfl (.cons rfl rfl (.cons rfl rfl .nil))))
      refine l_nil ?_
      refine e_then ?_
      refine c_keep [0, 2, 4, 82] (.cons rfl (.cons rfl (.cons rfl (.cons rfl .nil)))) ?_
      first | refine c_cond rfl (fun hc9 => ?_) (fun hc9 => ?_) | refine c_condb rfl (fun hc9 => ?_) (fun hc9 => ?_)
      · skip
        refine c_seq ?_
        refine c_region ?_
        refine l_load_agg hw24 mem0 rfl rfl Try.underlying69 rfl tz69 rfl (.take (.take (.take (.take (.take (.take .nil)))))) ?_
        refine l_store_blks hw24 (.tail .head) (.zero (.zero (.zero (.zero (.zero (.zero .nil)))))) rfl tz69 rfl rfl (by first | (simp [Value.oneCell']; done) | (intro u hu; simp only [List.mem_cons, List.not_mem_nil, or_false] at hu; rcases hu with rfl | rfl | rfl | rfl | rfl | rfl <;> first | rfl | assumption)) (fun w31 hw31 => ?_)
        try clear hw24
        refine l_assign rfl rfl rfl ?_
        refine l_nil ?_
        refine e_then ?_
        refine c_keep [2, 3] (.cons rfl (.cons rfl .nil)) ?_
        refine c_ret ?_
        refine e_then_ret ?_
        refine e_doneN Try.results47 (.cell rfl (load_agg_run hw31 mem1 Try.underlying69 rfl tz69 (.take (.take (.take (.take (.take (.take .nil))))))) (.tmp rfl .nil)) rfl ?_
        refine ⟨_, rfl, ?_⟩
        have hw32 := St.del (.tail .head) hw31
        try clear hw31
        have hw33 := St.del .head hw32
        try clear hw32
        exact ⟨_, _, _, _, _, _, _, rfl, .rest hb hw hf hc7 hc8 (e_no hc9), hw33.grows⟩
      · skip
        refine c_skip ?_
        refine e_then ?_
        refine c_keep [0, 2, 4] (.cons rfl (.cons rfl (.cons rfl .nil))) ?_
        refine c_seq ?_
        refine c_region ?_
        refine l_move rfl rfl rfl ?_
        have h0 := ne_len hc8
        refine l_slices (l := 1) (h := R.length) rfl rfl Try.underlying9 rfl rfl rfl (by first | rfl | (simp; done) | (simp; omega)) (by first | rfl | (simp; done) | (simp; omega)) (by omega) (by first | omega | (simp; omega) | (simp; done)) ?_
        refine l_turn (s := 85) (v' := str (R.drop 1)) rfl (by rw [List.take_length]) ?_
        refine l_assign rfl rfl rfl ?_
        refine l_nil ?_
        refine e_then ?_
        refine c_keep [0, 2, 4] (.cons rfl (.cons rfl (.cons rfl .nil))) ?_
        refine c_cutk (ι := L8 × Bool) (fun (z0 : L8 × Bool) (w' : World) => match z0 with | ⟨E, en⟩ => St w w.heap.size None' ([As.blk b1_0 69 [.bool ng, .int .i64 0, str (b.take (run b)), str F, .bool en, str []], As.blk b0_0 69 [.bool false, .int .i64 0, str [], str [], .bool false, str []]]) w' ∧ E = (R.drop 1).drop (sg (R.drop 1) 0) ∧ en = ngb (R.drop 1)) (fun (z0 : L8 × Bool) => match z0 with | ⟨E, en⟩ => [(0, str E)]) [2, 4] (.cons rfl (.cons rfl .nil)) ?_ ?_
        · skip
          refine c_seq ?_
          refine c_region ?_
          refine l_move rfl rfl rfl ?_
          refine l_neqs rfl rfl rfl rfl ?_
          refine l_move rfl rfl rfl ?_
          apply l_and 8 [0, 2, 4] rfl rfl (.cons rfl (.cons rfl (.cons rfl (.cons rfl .nil)))) rfl rfl (fun _ => rfl) rfl rfl rfl
          · intro hg25_3
            refine l_move rfl rfl rfl ?_
            have h0 := ne_len hg25_3
            refine v_gets (j := 0) rfl rfl Try.underlying9 rfl rfl (by omega) (by first | omega | (simp; omega) | (simp; done)) (fun hb25_4 => ?_)
            refine l_eql rfl rfl rfl rfl ?_
            refine l_move rfl rfl rfl ?_
            apply l_or 3 [0, 2, 4, 88] rfl rfl (.cons rfl (.cons rfl (.cons rfl (.cons rfl (.cons rfl .nil))))) rfl rfl (fun _ => rfl) rfl rfl rfl
            · intro hg25_7
              refine l_move rfl rfl rfl ?_
              have h0 := ne_len hg25_3
              refine v_gets (j := 0) rfl rfl Try.underlying9 rfl rfl (by omega) (by first | omega | (simp; omega) | (simp; done)) (fun hb25_8 => ?_)
              refine l_eql rfl rfl rfl rfl ?_
              refine l_nil ?_
              exact e_stays rfl (.cons rfl (congrArg Value.bool (decide_eq_false hg25_7).symm) (.cons rfl rfl (.cons rfl rfl (.cons rfl rfl (.cons rfl rfl .nil)))))
            refine l_nil ?_
            exact e_stays rfl (.cons rfl (congrArg Value.bool (decide_eq_true hg25_3).symm) (.cons rfl rfl (.cons rfl rfl (.cons rfl rfl .nil))))
          refine l_nil ?_
          refine e_then ?_
          refine c_keep [0, 2, 4, 97] (.cons rfl (.cons rfl (.cons rfl (.cons rfl .nil)))) ?_
          first | refine c_cond rfl (fun hc10 => ?_) (fun hc10 => ?_) | refine c_condb rfl (fun hc10 => ?_) (fun hc10 => ?_)
          · skip
            refine c_seq ?_
            refine c_region ?_
            refine l_move rfl rfl rfl ?_
            have h0 := ne_len hc10.1
            refine v_gets (j := 0) rfl rfl Try.underlying9 rfl rfl (by omega) (by first | omega | (simp; omega) | (simp; done)) (fun hb26_1 => ?_)
            refine l_eql rfl rfl rfl rfl ?_
            refine l_field fo69_4 rfl rfl rfl ?_
            refine l_store_blk hw24 .head (by repeat (first | exact .zero | apply SetAt.succ)) rfl tz4 rfl rfl (by first | rfl | assumption) (fun w34 hw34 => ?_)
            try clear hw24
            refine l_nil ?_
            refine e_then ?_
            refine c_keep [0, 2, 4] (.cons rfl (.cons rfl (.cons rfl .nil))) ?_
            refine c_region ?_
            refine l_move rfl rfl rfl ?_
            have h0 := ne_len hc10.1
            refine l_slices (l := 1) (h := (R.drop 1).length) rfl rfl Try.underlying9 rfl rfl rfl (by first | rfl | (simp; done) | (simp; omega)) (by first | rfl | (simp; done) | (simp; omega)) (by omega) (by first | omega | (simp; omega) | (simp; done)) ?_
            refine l_turn (s := 103) (v' := str ((R.drop 1).drop 1)) rfl (by rw [List.take_length]) ?_
            refine l_assign rfl rfl rfl ?_
            refine l_nil ?_
            refine e_meetk ((R.drop 1).drop 1, decide ((((R.drop 1).getD 0 0).toNat : Int) = 45)) ?_ (.cons rfl (.cons rfl .nil)) ?_
            · exact ⟨hw34, by rw [sg_yes (ne_len hc10.1) hc10.2], rfl⟩
            · exact (.cons rfl (by first | rfl | (refine congrArg (Value.int _) ?_; omega)) .nil)
          · skip
            refine c_skip ?_
            refine e_meetk (R.drop 1, false) ?_ (.cons rfl (.cons rfl .nil)) ?_
            · exact ⟨hw24, by rw [(ngb_nil hc10).2]; rfl, (ngb_nil hc10).1.symm⟩
            · exact (.cons rfl (by first | rfl | (refine congrArg (Value.int _) ?_; omega)) .nil)
        rintro ⟨E, en⟩ w35 ⟨hw35, hE, hen⟩
        show RunC P _ _ _ (_ :: _) _
        refine c_seq ?_
        refine c_region ?_
        refine l_move rfl rfl rfl ?_
        refine l_call rfl rfl Try.func60 rfl rfl (.cons rfl .nil) (run8 E (by rw [hE]; simp only [List.length_drop]; omega) w35) ?_
        rintro _ w36 ⟨rfl, hG⟩
        have hw36 := hG _ _ _ _ hw35
        try clear hG hw35
        simp only [List.cons_append, List.nil_append] at hw36
        refine l_move rfl rfl rfl ?_
        refine l_extract rfl rfl rfl rfl ?_
        refine l_extract rfl rfl rfl rfl ?_
        refine l_field fo69_5 rfl rfl rfl ?_
        refine l_store_blk hw36 .head (by repeat (first | exact .zero | apply SetAt.succ)) rfl tz9 rfl rfl (by first | rfl | assumption) (fun w37 hw37 => ?_)
        try clear hw36
        refine l_assign rfl rfl rfl ?_
        refine l_nil ?_
        refine e_then ?_
        refine c_keep [0, 2, 4] (.cons rfl (.cons rfl (.cons rfl .nil))) ?_
        refine c_seq ?_
        refine c_region ?_
        refine l_load_agg hw37 mem0 rfl rfl Try.underlying69 rfl tz69 rfl (.take (.take (.take (.take (.take (.take .nil)))))) ?_
        refine l_field fo69_5 rfl rfl rfl ?_
        refine l_load_blk hw37 mem0 rfl rfl Try.underlying9 rfl rfl rfl ?_
        refine l_neqs rfl rfl rfl rfl ?_
        refine l_move rfl rfl rfl ?_
        apply l_and 2 [2, 110] rfl rfl (.cons rfl (.cons rfl (.cons rfl .nil))) rfl rfl (fun _ => rfl) rfl rfl rfl
        · intro hg29_5
          refine l_move rfl rfl rfl ?_
          refine l_eqls rfl rfl rfl rfl ?_
          refine l_nil ?_
          exact e_stays rfl (.cons rfl (congrArg Value.bool (decide_eq_true hg29_5).symm) (.cons rfl rfl (.cons rfl rfl .nil)))
        refine l_store_blks hw37 (.tail .head) (.zero (.zero (.zero (.zero (.zero (.zero .nil)))))) rfl tz69 rfl rfl (by first | (simp [Value.oneCell']; done) | (intro u hu; simp only [List.mem_cons, List.not_mem_nil, or_false] at hu; rcases hu with rfl | rfl | rfl | rfl | rfl | rfl <;> first | rfl | assumption)) (fun w38 hw38 => ?_)
        try clear hw37
        refine l_assign rfl rfl rfl ?_
        refine l_nil ?_
        refine e_then ?_
        refine c_keep [2, 3] (.cons rfl (.cons rfl .nil)) ?_
        refine c_ret ?_
        refine e_doneN Try.results47 (.cell rfl (load_agg_run hw38 mem1 Try.underlying69 rfl tz69 (.take (.take (.take (.take (.take (.take .nil))))))) (.tmp rfl .nil)) rfl ?_
        refine ⟨_, rfl, ?_⟩
        have hw39 := St.del (.tail .head) hw38
        try clear hw38
        have hw40 := St.del .head hw39
        try clear hw39
        subst hng hen
        exact ⟨_, _, _, _, _, _, _, rfl, .exp hb hw hf hc7 hc8 (e_or hc9) hE, hw40.grows⟩
end Go.Proofs.Ytjkaahnadaapoaa.W
