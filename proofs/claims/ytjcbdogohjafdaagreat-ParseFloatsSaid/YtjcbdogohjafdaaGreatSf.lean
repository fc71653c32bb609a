/- walks of the document's scanner: lower, run, cut, begins, check, exponent, all -/
import Derived.Test.YtjcbdogohjafdaaGreatSd
set_option linter.unusedVariables false
set_option linter.unusedSimpArgs false
set_option maxRecDepth 10000
namespace Go.Proofs.YtjcbdogohjafdaaGreat.W
open Go.Vc Go.RowKit Tryz
theorem add32 {c : UInt8} (h : 65 ≤ (c.toNat : Int) ∧ (c.toNat : Int) ≤ 90) : (c.toNat : Int) + 32 = ((lowc c).toNat : Int) := by
 have key : ∀ c : UInt8, 65 ≤ c.toNat ∧ c.toNat ≤ 90 → c.toNat + 32 = (lowc c).toNat := all8 (by decide +kernel)
 have := key c ZO
 omega
theorem no32 {c : UInt8} (h : ¬ (65 ≤ (c.toNat : Int) ∧ (c.toNat : Int) ≤ 90)) : c = lowc c := by unfold lowc; rw [if_neg (by omega)]
theorem low_snoc {s : L8} {k : Nat} (h : k < s.length) : low (s.take k) ++ [lowc (s.getD k 0)] = low (s.take (k + 1)) := by
 have e : s.getD k 0 = s[k] := by simp [List.getD, h]
 rw [List.take_succ_eq_append_getElem h, e]
 show (s.take k).map lowc ++ [lowc s[k]] = (s.take k ++ [s[k]]).map lowc
 rw [List.map_append]
 rfl
theorem e_or {c : UInt8} (h : ¬ (¬ (c.toNat : Int) = 101 ∧ ¬ (c.toNat : Int) = 69)) : c = 101 ∨ c = 69 := by
 by_cases h1 : (c.toNat : Int) = 101
 ·exact .inl ((Z1R (d := 101)).1 h1)
 by_cases h2 : (c.toNat : Int) = 69
 ·exact .inr ((Z1R (d := 69)).1 h2)
 exact absurd ⟨h1, h2⟩ h
theorem e_no {c : UInt8} (h : ¬ (c.toNat : Int) = 101 ∧ ¬ (c.toNat : Int) = 69) : ¬ c = 101 ∧ ¬ c = 69 := ⟨fun e => h.1 ((Z1R (d := 101)).2 e), fun e => h.2 ((Z1R (d := 69)).2 e)⟩
theorem Z4S {t : L8} (h : ¬ (¬ t = [] ∧ (((t.getD 0 0).toNat : Int) = 43 ∨ ((t.getD 0 0).toNat : Int) = 45))) : ngb t = false ∧ sg t 0 = 0 := by
 have h2 : ¬ ((0 : Int) < (t.length : Int) ∧ (((t.getD 0 0).toNat : Int) = 43 ∨ ((t.getD 0 0).toNat : Int) = 45)) := fun h3 => h ⟨fun e => by rw [e] at h3; simp at h3, h3.2⟩
 exact ⟨ngb_no h2, Z51 (fun h3 => h2 ⟨by omega, h3.2⟩)⟩
theorem Z1B {t : L8} (h : ¬ t = []) : 0 < t.length := List.length_pos_iff.2 h
theorem ext_at {i : Nat} (h : i < 12) : (exts.map str)[((i : Nat) : Int).toNat]? = some (str (exts.getD i [])) := by
 rw [Int.toNat_natCast, List.getElem?_map]
 have : i < exts.length := h
 simp [List.getD, this]
theorem ext_len {i : Nat} : (exts.getD i []).length ≤ 6 := by
 rcases Nat.lt_or_ge i 12 with h | h
 ·have key : ∀ k : Fin 12, (exts.getD k.val []).length ≤ 6 := by decide
  exact key ⟨i, h⟩
 have : exts.getD i [] = [] := by
  have : exts.length ≤ i := h
  simp [List.getD, this]
 rw [this]; simp
theorem expo_keep : ∀ (b a : L8), (∀ x ∈ b, isD x) → expo a = 99999 → expo (a ++ b) = 99999
 | [], a, _, h => by simpa using h
 | c :: b, a, hd, h => by
  have hc := hd c (.head _)
  unfold isD at hc
  have := expo_keep b (a ++ [c]) (fun x hx => hd x (.tail _ hx)) (by rw [Z2j, h]; omega)
  simpa using this
theorem expo_next {E : L8} {k : Nat} (h : k < E.length) : expo (E.take (k + 1)) = min (10 * expo (E.take k) + (((E.getD k 0).toNat : Int) - 48)) 99999 := by
 have e : E.getD k 0 = E[k] := by simp [List.getD, h]
 rw [List.take_succ_eq_append_getElem h, Z2j, e]
theorem RC.form {t : L8} {ng en : Bool} {wd : Int} {W F E : L8} (h : RC t ng wd W F en E false) (hl : t.length ≤ 1024) {n : Nat} (hn : n ≤ t.length) (h1 : ¬ st t n = 19) (h2 : n < t.length → st t (n + 1) = 19) : Z1S t false 0 [] [] 0 (n : Int) 81 := by
 obtain ⟨_, _, _, _, _, a, hc, _⟩ := h.cut
 obtain ⟨m, rfl, hm, h3, h4, _⟩ := hc.state
 have : m = n := by
  rcases Nat.lt_trichotomy m n with h | h | h
  ·exact absurd (st_mono (h4 ZO) ZO) h1
  ·exact h
  exact absurd (st_mono (h2 ZO) ZO) h3
 subst this
 exact .form hl hc
inductive ChkR (t : L8) : Bool → Int → L8 → L8 → Bool → L8 → Int → Int → Prop
 | long (h : 1024 < t.length) : ChkR t false 0 [] [] false [] 0 80
 | ok {ng en : Bool} {wd : Int} {W F E : L8} (h : t.length ≤ 1024) (hc : RC t ng wd W F en E true) : ChkR t ng wd W F en E 0 0
 | form {p : Int} (h : Z1S t false 0 [] [] 0 p 81) : ChkR t false 0 [] [] false [] p 81
theorem lower8 (s : L8) (hL : s.length ≤ 1099511627776) (w : World) :
  Z0g P 169 [str s] w fun r w' => r = str (low s) ∧ Grow w w' [] := by
 refine Z0o func169 rfl ntmps169 rfl ?_
 have H0 := St.start w
 refine Z03 (Z00 (Zg (Z02 (Z01 (Z03 (Z00 (Zg (Z02 (Z01 (Z03 (Z03 ?_)))))))))))
 refine Z00 (Zg (Z02 (Z01 (Z0c ?_))))
 refine Z0v (ι := Nat) (fun (k : Nat) => s.length - k) (fun (k : Nat) (w' : World) => St w w.heap.size Z0B ([]) w' ∧ k ≤ s.length) (fun (k : Nat) => [(3, str (low (s.take k))), (4, .int .i64 (k : Int))]) [0] (0) ?_ (.cons rfl .nil) ?_ ?_
 ·exact ⟨H0, ZO⟩
 ·exact (.cons rfl ZN (.cons rfl ZN .nil))
 rintro k w1 ⟨H1, hk⟩
 show RunC P _ _ _ (_ :: _) _
 refine Z03 (Z03 (Z00 (Zm (Zm ?_))))
 refine Z0X rfl rfl underlying9 rfl ?_
 refine Zl ?_
 refine Z02 (Z01 ?_)
 (first | refine Z08 rfl ?_ ?_ | refine Z05 rfl ?_ ?_) <;> intro hc0
 ·refine Z09 (Z01 ?_)
  refine Zk [0, 3, 4] ?_
  refine Z03 (Z0c (Z03 (Z00 (Zm (Zm ?_)))))
  refine Z1y (j := k) rfl rfl underlying9 rfl rfl ZO ZI (fun hb5_2 => ?_)
  refine Zg (Z02 (Z01 ?_))
  refine Zk [0, 3, 4, 5] ?_
  refine Z0R (ι := UInt8) (fun (lc : UInt8) (w' : World) => St w w.heap.size Z0B ([]) w' ∧ lc = lowc (s.getD k 0)) (fun (lc : UInt8) => [(5, .int .u8 (lc.toNat : Int))]) [0, 3, 4] (.cons rfl (.cons rfl (.cons rfl .nil))) ?_ ?_
  ·refine Z03 (Z00 (Zm ?_))
   refine Zh ?_
   refine Zm ?_
   apply Z13 2 [0, 3, 4, 5] rfl rfl (.cons rfl (.cons rfl (.cons rfl (.cons rfl (.cons rfl .nil))))) rfl rfl (fun _ => rfl) rfl rfl rfl
   ·intro hg6_3
    refine Zm ?_
    refine Zf ?_
    refine Z02 ?_
    exact Z0n rfl (.cons rfl (ZT hg6_3) (.cons rfl rfl (.cons rfl rfl (.cons rfl rfl (.cons rfl rfl .nil)))))
   refine Z02 (Z01 ?_)
   (first | refine Z08 rfl ?_ ?_ | refine Z05 rfl ?_ ?_) <;> intro hc1
   ·refine Z00 (Zm ?_)
    refine Z0t rfl rfl rfl rfl (w_u8 ZO) ?_
    refine Zg (Z02 ?_)
    refine Z0s (lowc (s.getD k 0)) ?_ (.cons rfl (.cons rfl (.cons rfl .nil))) ?_
    ·exact ⟨H1, rfl⟩
    exact (.cons rfl (by first | rfl | exact congrArg (Value.int .u8) (add32 hc1)) .nil)
   refine Z09 ?_
   refine Z0s (s.getD k 0) ?_ (.cons rfl (.cons rfl (.cons rfl .nil))) ?_
   ·exact ⟨H1, no32 hc1⟩
   exact (.cons rfl (by first | rfl | exact congrArg (Value.int .u8) (add32 hc1)) .nil)
  rintro lc w2 ⟨H2, hlc⟩
  show RunC P _ _ _ (_ :: _) _
  refine Z00 ?_
  have hlk : (low (s.take k)).length ≤ s.length := by simp [low]; omega
  refine Zm (Zm ?_)
  refine Z17 H2 rfl rfl underlying26 ti5 rfl (.cons rfl ZR .nil) rfl rfl rfl (fun b8_2 w3 H3 => ?_)
  refine Z3l (l := [lc]) rfl rfl underlying26 underlying5 underlying9 rfl (by first | exact H3.ibl mem0 | assumption) ?_
  refine l_adds rfl rfl rfl rfl (by first | omega | (simp only [List.length_append, List.length_cons, List.length_nil] at *; omega)) ?_
  refine Zg (Z02 ?_)
  refine Z0z ?_
  refine Z01 ?_
  refine Zk [0, 3, 4] ?_
  refine Z00 (Zm ?_)
  refine Z0t rfl rfl rfl rfl (Z0h ZO) ?_
  refine Zg (Z02 ?_)
  have H4 := St.del .head H3
  refine Z0j (i := (k)) (k + 1) ?_ ?_ (.cons rfl .nil) ?_
  ·first | omega | (simp; omega)
  ·exact ⟨H4, ZO⟩
  exact (.cons rfl (by rw [hlc, low_snoc ZO]) (.cons rfl ZN .nil))
 refine Z0y ?_
 refine Z04 ?_
 refine Z04 ?_
 refine Z0d ?_
 refine Z01 (Z03 (Z00 (Zm (Zg (Z02 (Z01 ?_))))))
 refine Z0f ?_
 refine Z0l results169 rfl ?_
 refine ⟨_, rfl, ?_⟩
 obtain rfl : k = s.length := by omega
 exact ⟨by rw [List.take_length], H1.grows⟩
theorem run8 (s : L8) (hL : s.length ≤ 1099511627776) (w : World) :
  Z0g P 170 [str s] w fun r w' => r = .tuple #[str (s.take (run s)), str (s.drop (run s))] ∧ Grow w w' [] := by
 refine Z0o func170 rfl ntmps170 rfl ?_
 have H0 := St.start w
 refine Z03 (Z00 (Zg (Zg (Z02 (Z01 (Z03 (Z00 (Zm ?_))))))))
 refine Z3V H0 rfl rfl underlying9 underlying26 underlying5 rfl (fun v1_1 w1 H1 => ?_)
 refine Z0J rfl rfl func134 rfl rfl (.cons rfl (.cons rfl .nil)) (run_ref04 _ s ZO 0 ZO w1 (H1.ii mem0)) ?_
 refine Zg (Z02 (Z01 (Z03 ?_)))
 refine Z2a ZK ZK ?_
 have H2 := H1.drewn
 have hrl := run_le s
 refine Zm (Zm ?_)
 refine Z1K (l := 0) (h := run s) rfl rfl underlying9 rfl rfl rfl ZD ZD ZO ZI ?_
 refine Zm (Zm ?_)
 refine Z1K (l := run s) (h := s.length) rfl rfl underlying9 rfl rfl rfl ZD ZD ZO ZI ?_
 refine Zg (Zg (Z02 (Z01 ?_)))
 refine Zk [2, 3] ?_
 refine Z0f ?_
 refine Z0x results170 rfl rfl ?_
 refine ⟨_, rfl, ?_⟩
 have H3 := St.del .head H2
 exact ⟨by rw [List.drop_zero, List.take_length], H3.grows⟩
theorem cut8 (s : L8) (hL : s.length ≤ 1099511627776) (w : World) :
  Z0g P 132 [str s] w fun r w' => ∃ ng wd W F en E ok, r = .tuple #[.agg #[.bool ng, .int .i64 wd, str W, str F, .bool en, str E], .bool ok] ∧ RC s ng wd W F en E ok ∧ Grow w w' [] := by
 refine Z0o func132 rfl ntmps132 rfl ?_
 have H0 := St.start w
 refine Z03 (Z00 ?_)
 refine Z0H H0 Z5L rfl rfl (fun b0_0 w1 H1 => ?_)
 refine Zg (Z02 (Z01 (Z03 (Z00 ?_))))
 refine Z0H H1 Z5L rfl rfl (fun b1_0 w2 H2 => ?_)
 refine Z02 (Z01 ?_)
 refine Z0R (ι := L8 × Bool) (fun (z0 : L8 × Bool) (w' : World) => match z0 with | ⟨b, ng⟩ => St w w.heap.size Z0B ([As.blk b1_0 143 [.bool ng, .int .i64 0, str [], str [], .bool false, str []], As.blk b0_0 143 [.bool false, .int .i64 0, str [], str [], .bool false, str []]]) w' ∧ b = s.drop (sg s 0) ∧ ng = ngb s) (fun (z0 : L8 × Bool) => match z0 with | ⟨b, ng⟩ => [(0, str b)]) [2, 4] (.cons rfl (.cons rfl .nil)) ?_ ?_
 ·refine Z03 (Z00 (Zm ?_))
  refine l_neqs rfl rfl rfl rfl ?_
  refine Zm ?_
  apply Z13 8 [0, 2, 4] rfl rfl (.cons rfl (.cons rfl (.cons rfl (.cons rfl .nil)))) rfl rfl (fun _ => rfl) rfl rfl rfl
  ·intro hg2_3
   refine Zm ?_
   have h0 := Z1B hg2_3
   refine Z1y (j := 0) rfl rfl underlying9 rfl rfl ZO ZI (fun hb2_4 => ?_)
   refine Ze ?_
   refine Zm ?_
   apply l_or 3 [0, 2, 4, 7] rfl rfl (.cons rfl (.cons rfl (.cons rfl (.cons rfl (.cons rfl .nil))))) rfl rfl (fun _ => rfl) rfl rfl rfl
   ·intro hg2_7
    refine Zm ?_
    have h0 := Z1B hg2_3
    refine Z1y (j := 0) rfl rfl underlying9 rfl rfl ZO ZI (fun hb2_8 => ?_)
    refine Ze ?_
    refine Z02 ?_
    exact Z0n rfl (.cons rfl (ZF hg2_7) (.cons rfl rfl (.cons rfl rfl (.cons rfl rfl (.cons rfl rfl .nil)))))
   refine Z02 ?_
   exact Z0n rfl (.cons rfl (ZT hg2_3) (.cons rfl rfl (.cons rfl rfl (.cons rfl rfl .nil))))
  refine Z02 (Z01 ?_)
  (first | refine Z08 rfl ?_ ?_ | refine Z05 rfl ?_ ?_) <;> intro hc0
  ·refine Z03 (Z00 (Zm ?_))
   have h0 := Z1B hc0.1
   refine Z1y (j := 0) rfl rfl underlying9 rfl rfl ZO ZI (fun hb3_1 => ?_)
   refine Ze ?_
   refine Z0b fo143_0 rfl rfl rfl ?_
   refine Z0w H2 .head (by repeat (first | exact .zero | apply Z1g.succ)) rfl tz4 rfl rfl ZR (fun w3 H3 => ?_)
   refine Z02 (Z01 ?_)
   refine Zk [0, 2, 4] ?_
   refine Z00 (Zm ?_)
   have h0 := Z1B hc0.1
   refine Z1K (l := 1) (h := s.length) rfl rfl underlying9 rfl rfl rfl ZD ZD ZO ZI ?_
   refine Z0q (s := 22) (v' := str (s.drop 1)) rfl (by rw [List.take_length]) ?_
   refine Zg (Z02 ?_)
   refine Z0s (s.drop 1, decide (((s.getD 0 0).toNat : Int) = 45)) ?_ (.cons rfl (.cons rfl .nil)) ?_
   ·exact ⟨H3, by rw [Z2F (Z1B hc0.1) hc0.2], rfl⟩
   exact (.cons rfl ZN .nil)
  refine Z09 ?_
  refine Z0s (s, false) ?_ (.cons rfl (.cons rfl .nil)) ?_
  ·exact ⟨H2, by rw [(Z4S hc0).2]; rfl, (Z4S hc0).1.symm⟩
  exact (.cons rfl ZN .nil)
 rintro ⟨b, ng⟩ w4 ⟨H4, hb, hng⟩
 show RunC P _ _ _ (_ :: _) _
 refine Z0R (ι := Unit) (fun (z : Unit) (w' : World) => St w w.heap.size Z0B ([As.blk b1_0 143 [.bool ng, .int .i64 0, str [], str [], .bool false, str []], As.blk b0_0 143 [.bool false, .int .i64 0, str [], str [], .bool false, str []]]) w' ∧ ¬ Z3E b) (fun (z : Unit) => []) [0, 2, 4] (.cons rfl (.cons rfl (.cons rfl .nil))) ?_ ?_
 ·refine Z03 (Z00 ?_)
  have hbl : b.length ≤ s.length := by rw [hb, List.length_drop]; omega
  refine Zm ?_
  refine Z0X rfl rfl underlying9 rfl ?_
  refine Ze ?_
  refine Zm ?_
  apply l_or 3 [0, 2, 4] rfl rfl (.cons rfl (.cons rfl (.cons rfl (.cons rfl .nil)))) rfl rfl (fun _ => rfl) rfl rfl rfl
  ·intro hg5_4
   refine Zm ?_
   refine Z0X rfl rfl underlying9 rfl ?_
   refine Ze ?_
   refine Z02 ?_
   exact Z0n rfl (.cons rfl (ZF hg5_4) (.cons rfl rfl (.cons rfl rfl (.cons rfl rfl .nil))))
  refine Z02 (Z01 ?_)
  (first | refine Z08 rfl ?_ ?_ | refine Z05 rfl ?_ ?_) <;> intro hc1
  ·refine Z03 (Z00 (Zm ?_))
   refine Zc func169 (lower8 b ZO w4) ?_
   rintro _ w5 ⟨rfl, hG⟩
   have H5 := hG _ _ _ _ H4
   simp only [Zca, Zna] at H5
   refine Z02 (Z01 (Z0c (Z03 (Z03 (Z00 ?_)))))
   refine Z2R rfl rfl rfl rfl ?_
   refine Zg (Z02 (Z01 ?_))
   refine Zk [0, 2, 4, 32, 33] ?_
   (first | refine Z08 rfl ?_ ?_ | refine Z05 rfl ?_ ?_) <;> intro hc2
   ·refine Z09 (Z01 ?_)
    (first | refine Z08 rfl ?_ ?_ | refine Z05 rfl ?_ ?_) <;> intro hc3
    ·refine Z03 (Z00 (Z0b Z47 rfl rfl rfl ?_))
     refine Z0w H5 .head (by repeat (first | exact .zero | apply Z1g.succ)) rfl tz3 rfl rfl ZR (fun w6 H6 => ?_)
     refine Z02 (Z01 (Z03 (Z00 ?_)))
     refine Z0e H6 mem0 rfl rfl underlying143 rfl Z1q rfl (.take (.take (.take (.take (.take (.take .nil)))))) ?_
     refine Z0a H6 (.tail .head) (.zero (.zero (.zero (.zero (.zero (.zero .nil)))))) rfl Z1q rfl rfl ZC (fun w7 H7 => ?_)
     refine Zg (Z02 (Z01 ?_))
     refine Z0f ?_
     refine Z0r ?_
     refine Z06 ?_
     refine Z0p results132 (.cell rfl (Z0k H7 mem1 underlying143 rfl Z1q (.take (.take (.take (.take (.take (.take .nil))))))) (.tmp rfl .nil)) rfl ?_
     refine ⟨_, rfl, ?_⟩
     have H9 := St.del .head (St.del (.tail .head) H7)
     subst hng
     exact ⟨_, _, _, _, _, _, _, rfl, .inf hb ZO (by first | exact .inl ‹_› | exact .inr ‹_›), H9.grows⟩
    exact absurd hc2 hc3
   refine Z00 ?_
   refine Z2R rfl rfl rfl rfl ?_
   refine Zg (Z02 (Z01 ?_))
   refine Zk [0, 2, 4, 32, 33] ?_
   (first | refine Z08 rfl ?_ ?_ | refine Z05 rfl ?_ ?_) <;> intro hc4
   ·refine Z03 (Z00 (Z0b Z47 rfl rfl rfl ?_))
    refine Z0w H5 .head (by repeat (first | exact .zero | apply Z1g.succ)) rfl tz3 rfl rfl ZR (fun w10 H10 => ?_)
    refine Z02 (Z01 (Z03 (Z00 ?_)))
    refine Z0e H10 mem0 rfl rfl underlying143 rfl Z1q rfl (.take (.take (.take (.take (.take (.take .nil)))))) ?_
    refine Z0a H10 (.tail .head) (.zero (.zero (.zero (.zero (.zero (.zero .nil)))))) rfl Z1q rfl rfl ZC (fun w11 H11 => ?_)
    refine Zg (Z02 (Z01 ?_))
    refine Z0f ?_
    refine Z0r ?_
    refine Z06 ?_
    refine Z0p results132 (.cell rfl (Z0k H11 mem1 underlying143 rfl Z1q (.take (.take (.take (.take (.take (.take .nil))))))) (.tmp rfl .nil)) rfl ?_
    refine ⟨_, rfl, ?_⟩
    have H13 := St.del .head (St.del (.tail .head) H11)
    subst hng
    exact ⟨_, _, _, _, _, _, _, rfl, .inf hb ZO (by first | exact .inl ‹_› | exact .inr ‹_›), H13.grows⟩
   refine Z03 (Z00 ?_)
   refine Z2R rfl rfl rfl rfl ?_
   refine Zg (Z02 (Z01 ?_))
   refine Zk [0, 2, 4, 38] ?_
   (first | refine Z08 rfl ?_ ?_ | refine Z05 rfl ?_ ?_) <;> intro hc5
   ·refine Z03 (Z00 (Z0b Z47 rfl rfl rfl ?_))
    refine Z0w H5 .head (by repeat (first | exact .zero | apply Z1g.succ)) rfl tz3 rfl rfl ZR (fun w14 H14 => ?_)
    refine Z02 (Z01 (Z03 (Z00 (Z0b fo143_0 rfl rfl rfl ?_))))
    refine Z0w H14 .head (by repeat (first | exact .zero | apply Z1g.succ)) rfl tz4 rfl rfl ZR (fun w15 H15 => ?_)
    refine Z02 (Z01 (Z03 (Z00 ?_)))
    refine Z0e H15 mem0 rfl rfl underlying143 rfl Z1q rfl (.take (.take (.take (.take (.take (.take .nil)))))) ?_
    refine Z0a H15 (.tail .head) (.zero (.zero (.zero (.zero (.zero (.zero .nil)))))) rfl Z1q rfl rfl ZC (fun w16 H16 => ?_)
    refine Zg (Z02 (Z01 ?_))
    refine Zk [2, 3] ?_
    refine Z0f ?_
    refine Z0r ?_
    refine Z06 ?_
    refine Z0p results132 (.cell rfl (Z0k H16 mem1 underlying143 rfl Z1q (.take (.take (.take (.take (.take (.take .nil))))))) (.tmp rfl .nil)) rfl ?_
    refine ⟨_, rfl, ?_⟩
    have H18 := St.del .head (St.del (.tail .head) H16)
    exact ⟨_, _, _, _, _, _, _, rfl, .nan hb ZO ZA, H18.grows⟩
   refine Z09 ?_
   refine Z0z ?_
   refine Z0s (()) ?_ (.cons rfl (.cons rfl (.cons rfl .nil))) ?_
   ·exact ⟨H5, fun h => by rcases h.2 with (h | h) | h <;> contradiction⟩
   exact .nil
  refine Z09 ?_
  refine Z0s (()) ?_ (.cons rfl (.cons rfl (.cons rfl .nil))) ?_
  ·exact ⟨H4, fun h => by have := h.1; omega⟩
  exact .nil
 rintro z w19 ⟨H19, hw⟩
 refine Z03 (Z00 ?_)
 have hbl : b.length ≤ s.length := by rw [hb, List.length_drop]; omega
 refine Zm ?_
 refine Zc func170 (run8 b ZO w19) ?_
 rintro _ w20 ⟨rfl, hG⟩
 have H20 := hG _ _ _ _ H19
 simp only [Zca, Zna] at H20
 refine Zm ?_
 refine Zx (Zx (Z0b fo143_2 rfl rfl rfl ?_))
 refine Z0w H20 .head (by repeat (first | exact .zero | apply Z1g.succ)) rfl tz9 rfl rfl ZR (fun w21 H21 => ?_)
 refine Zg (Z02 (Z01 ?_))
 refine Zk [0, 2, 4] ?_
 refine Z0R (ι := L8 × L8) (fun (z0 : L8 × L8) (w' : World) => match z0 with | ⟨F, R⟩ => St w w.heap.size Z0B ([As.blk b1_0 143 [.bool ng, .int .i64 0, str (b.take (run b)), str F, .bool false, str []], As.blk b0_0 143 [.bool false, .int .i64 0, str [], str [], .bool false, str []]]) w' ∧ Fs (b.drop (run b)) F R ∧ R.length ≤ s.length) (fun (z0 : L8 × L8) => match z0 with | ⟨F, R⟩ => [(0, str R)]) [2, 4] (.cons rfl (.cons rfl .nil)) ?_ ?_
 ·refine Z03 (Z00 ?_)
  have hbl : b.length ≤ s.length := by rw [hb, List.length_drop]; omega
  refine Zm ?_
  refine l_neqs rfl rfl rfl rfl ?_
  refine Zm ?_
  apply Z13 3 [0, 2, 4] rfl rfl (.cons rfl (.cons rfl (.cons rfl (.cons rfl .nil)))) rfl rfl (fun _ => rfl) rfl rfl rfl
  ·intro hg16_3
   refine Zm ?_
   have h0 := Z1B hg16_3
   refine Z1y (j := 0) rfl rfl underlying9 rfl rfl ZO ZI (fun hb16_4 => ?_)
   refine Ze ?_
   refine Z02 ?_
   exact Z0n rfl (.cons rfl (ZT hg16_3) (.cons rfl rfl (.cons rfl rfl (.cons rfl rfl .nil))))
  refine Z02 (Z01 ?_)
  (first | refine Z08 rfl ?_ ?_ | refine Z05 rfl ?_ ?_) <;> intro hc6
  ·refine Z00 (Zm ?_)
   have h0 := Z1B hc6.1
   refine Z1K (l := 1) (h := (b.drop (run b)).length) rfl rfl underlying9 rfl rfl rfl ZD ZD ZO ZI ?_
   refine Z0q (s := 58) (v' := str ((b.drop (run b)).drop 1)) rfl (by rw [List.take_length]) ?_
   refine Zc func170 (run8 ((b.drop (run b)).drop 1) (by simp only [List.length_drop]; omega) w21) ?_
   rintro _ w22 ⟨rfl, hG⟩
   have H22 := hG _ _ _ _ H21
   simp only [Zca, Zna] at H22
   refine Zm ?_
   refine Zx (Zx (Z0b Z4D rfl rfl rfl ?_))
   refine Z0w H22 .head (by repeat (first | exact .zero | apply Z1g.succ)) rfl tz9 rfl rfl ZR (fun w23 H23 => ?_)
   refine Zg (Z02 ?_)
   refine Z0s (((b.drop (run b)).drop 1).take (run ((b.drop (run b)).drop 1)), ((b.drop (run b)).drop 1).drop (run ((b.drop (run b)).drop 1))) ?_ (.cons rfl (.cons rfl .nil)) ?_
   ·exact ⟨H23, .yes hc6.1 (p46.1 hc6.2), by simp only [List.length_drop]; omega⟩
   exact (.cons rfl ZN .nil)
  refine Z09 ?_
  refine Z0s ([], b.drop (run b)) ?_ (.cons rfl (.cons rfl .nil)) ?_
  ·exact ⟨H21, .no (Classical.byContradiction fun h => hc6 ⟨fun e => h (.inl e), p46.2 (Classical.byContradiction fun h2 => h (.inr h2))⟩), by simp only [List.length_drop]; omega⟩
  exact (.cons rfl ZN .nil)
 rintro ⟨F, R⟩ w24 ⟨H24, hf, hRl⟩
 show RunC P _ _ _ (_ :: _) _
 refine Z03 (Z03 (Z00 (Z0b fo143_2 rfl rfl rfl ?_)))
 refine Z07 H24 mem0 rfl rfl underlying9 rfl rfl rfl ?_
 refine Z2R rfl rfl rfl rfl ?_
 refine Zm ?_
 apply Z13 3 [0, 2, 4] rfl rfl (.cons rfl (.cons rfl (.cons rfl (.cons rfl .nil)))) rfl rfl (fun _ => rfl) rfl rfl rfl
 ·intro hg18_4
  refine Z0b Z4D rfl rfl rfl ?_
  refine Z07 H24 mem0 rfl rfl underlying9 rfl rfl rfl ?_
  refine Z2R rfl rfl rfl rfl ?_
  refine Z02 ?_
  exact Z0n rfl (.cons rfl (ZT hg18_4) (.cons rfl rfl (.cons rfl rfl (.cons rfl rfl .nil))))
 refine Z02 (Z01 ?_)
 refine Zk [0, 2, 4, 70] ?_
 (first | refine Z08 rfl ?_ ?_ | refine Z05 rfl ?_ ?_) <;> intro hc7
 ·refine Z03 (Z00 ?_)
  refine Z0e H24 mem0 rfl rfl underlying143 rfl Z1q rfl (.take (.take (.take (.take (.take (.take .nil)))))) ?_
  refine Z0a H24 (.tail .head) (.zero (.zero (.zero (.zero (.zero (.zero .nil)))))) rfl Z1q rfl rfl ZC (fun w25 H25 => ?_)
  refine Zg (Z02 (Z01 ?_))
  refine Z0f ?_
  refine Z06 ?_
  refine Z0p results132 (.cell rfl (Z0k H25 mem1 underlying143 rfl Z1q (.take (.take (.take (.take (.take (.take .nil))))))) (.tmp rfl .nil)) rfl ?_
  refine ⟨_, rfl, ?_⟩
  have H27 := St.del .head (St.del (.tail .head) H25)
  exact ⟨_, _, _, _, _, _, _, rfl, .none hb hw hf hc7, H27.grows⟩
 refine Z09 (Z01 (Z03 (Z03 (Z00 (Zm ?_)))))
 refine Z2R rfl rfl rfl rfl ?_
 refine Z02 (Z01 ?_)
 refine Zk [0, 2, 4, 73] ?_
 (first | refine Z08 rfl ?_ ?_ | refine Z05 rfl ?_ ?_) <;> intro hc8
 ·refine Z03 (Z00 ?_)
  refine Z0e H24 mem0 rfl rfl underlying143 rfl Z1q rfl (.take (.take (.take (.take (.take (.take .nil)))))) ?_
  refine Z0a H24 (.tail .head) (.zero (.zero (.zero (.zero (.zero (.zero .nil)))))) rfl Z1q rfl rfl ZC (fun w28 H28 => ?_)
  refine Zg (Z02 (Z01 ?_))
  refine Z0f ?_
  refine Z06 ?_
  refine Z0p results132 (.cell rfl (Z0k H28 mem1 underlying143 rfl Z1q (.take (.take (.take (.take (.take (.take .nil))))))) (.tmp rfl .nil)) rfl ?_
  refine ⟨_, rfl, ?_⟩
  have H30 := St.del .head (St.del (.tail .head) H28)
  subst hng
  exact ⟨_, _, _, _, _, _, _, rfl, .plain hb hw hf hc7 hc8, H30.grows⟩
 refine Z09 (Z01 (Z03 (Z03 (Z00 (Zm ?_)))))
 have h0 := Z1B hc8
 refine Z1y (j := 0) rfl rfl underlying9 rfl rfl ZO ZI (fun hb22_1 => ?_)
 refine Zo ?_
 refine Zm ?_
 apply Z13 3 [0, 2, 4] rfl rfl (.cons rfl (.cons rfl (.cons rfl (.cons rfl .nil)))) rfl rfl (fun _ => rfl) rfl rfl rfl
 ·intro hg22_4
  refine Zm ?_
  have h0 := Z1B hc8
  refine Z1y (j := 0) rfl rfl underlying9 rfl rfl ZO ZI (fun hb22_5 => ?_)
  refine Zo ?_
  refine Z02 ?_
  exact Z0n rfl (.cons rfl (ZT hg22_4) (.cons rfl rfl (.cons rfl rfl (.cons rfl rfl .nil))))
 refine Z02 (Z01 ?_)
 refine Zk [0, 2, 4, 82] ?_
 (first | refine Z08 rfl ?_ ?_ | refine Z05 rfl ?_ ?_) <;> intro hc9
 ·refine Z03 (Z00 ?_)
  refine Z0e H24 mem0 rfl rfl underlying143 rfl Z1q rfl (.take (.take (.take (.take (.take (.take .nil)))))) ?_
  refine Z0a H24 (.tail .head) (.zero (.zero (.zero (.zero (.zero (.zero .nil)))))) rfl Z1q rfl rfl ZC (fun w31 H31 => ?_)
  refine Zg (Z02 (Z01 ?_))
  refine Z0f ?_
  refine Z06 ?_
  refine Z0p results132 (.cell rfl (Z0k H31 mem1 underlying143 rfl Z1q (.take (.take (.take (.take (.take (.take .nil))))))) (.tmp rfl .nil)) rfl ?_
  refine ⟨_, rfl, ?_⟩
  have H33 := St.del .head (St.del (.tail .head) H31)
  exact ⟨_, _, _, _, _, _, _, rfl, .rest hb hw hf hc7 hc8 (e_no hc9), H33.grows⟩
 refine Z09 (Z01 (Z03 (Z00 (Zm ?_))))
 have h0 := Z1B hc8
 refine Z1K (l := 1) (h := R.length) rfl rfl underlying9 rfl rfl rfl ZD ZD ZO ZI ?_
 refine Z0q (s := 85) (v' := str (R.drop 1)) rfl (by rw [List.take_length]) ?_
 refine Zg (Z02 (Z01 ?_))
 refine Zk [0, 2, 4] ?_
 refine Z0R (ι := L8 × Bool) (fun (z0 : L8 × Bool) (w' : World) => match z0 with | ⟨E, en⟩ => St w w.heap.size Z0B ([As.blk b1_0 143 [.bool ng, .int .i64 0, str (b.take (run b)), str F, .bool en, str []], As.blk b0_0 143 [.bool false, .int .i64 0, str [], str [], .bool false, str []]]) w' ∧ E = (R.drop 1).drop (sg (R.drop 1) 0) ∧ en = ngb (R.drop 1)) (fun (z0 : L8 × Bool) => match z0 with | ⟨E, en⟩ => [(0, str E)]) [2, 4] (.cons rfl (.cons rfl .nil)) ?_ ?_
 ·refine Z03 (Z00 (Zm ?_))
  refine l_neqs rfl rfl rfl rfl ?_
  refine Zm ?_
  apply Z13 8 [0, 2, 4] rfl rfl (.cons rfl (.cons rfl (.cons rfl (.cons rfl .nil)))) rfl rfl (fun _ => rfl) rfl rfl rfl
  ·intro hg25_3
   refine Zm ?_
   have h0 := Z1B hg25_3
   refine Z1y (j := 0) rfl rfl underlying9 rfl rfl ZO ZI (fun hb25_4 => ?_)
   refine Ze ?_
   refine Zm ?_
   apply l_or 3 [0, 2, 4, 88] rfl rfl (.cons rfl (.cons rfl (.cons rfl (.cons rfl (.cons rfl .nil))))) rfl rfl (fun _ => rfl) rfl rfl rfl
   ·intro hg25_7
    refine Zm ?_
    have h0 := Z1B hg25_3
    refine Z1y (j := 0) rfl rfl underlying9 rfl rfl ZO ZI (fun hb25_8 => ?_)
    refine Ze ?_
    refine Z02 ?_
    exact Z0n rfl (.cons rfl (ZF hg25_7) (.cons rfl rfl (.cons rfl rfl (.cons rfl rfl (.cons rfl rfl .nil)))))
   refine Z02 ?_
   exact Z0n rfl (.cons rfl (ZT hg25_3) (.cons rfl rfl (.cons rfl rfl (.cons rfl rfl .nil))))
  refine Z02 (Z01 ?_)
  (first | refine Z08 rfl ?_ ?_ | refine Z05 rfl ?_ ?_) <;> intro hc10
  ·refine Z03 (Z00 (Zm ?_))
   have h0 := Z1B hc10.1
   refine Z1y (j := 0) rfl rfl underlying9 rfl rfl ZO ZI (fun hb26_1 => ?_)
   refine Ze ?_
   refine Z0b fo143_4 rfl rfl rfl ?_
   refine Z0w H24 .head (by repeat (first | exact .zero | apply Z1g.succ)) rfl tz4 rfl rfl ZR (fun w34 H34 => ?_)
   refine Z02 (Z01 (Z00 (Zm ?_)))
   have h0 := Z1B hc10.1
   refine Z1K (l := 1) (h := (R.drop 1).length) rfl rfl underlying9 rfl rfl rfl ZD ZD ZO ZI ?_
   refine Z0q (s := 103) (v' := str ((R.drop 1).drop 1)) rfl (by rw [List.take_length]) ?_
   refine Zg (Z02 ?_)
   refine Z0s ((R.drop 1).drop 1, decide ((((R.drop 1).getD 0 0).toNat : Int) = 45)) ?_ (.cons rfl (.cons rfl .nil)) ?_
   ·exact ⟨H34, by rw [Z2F (Z1B hc10.1) hc10.2], rfl⟩
   exact (.cons rfl ZN .nil)
  refine Z09 ?_
  refine Z0s (R.drop 1, false) ?_ (.cons rfl (.cons rfl .nil)) ?_
  ·exact ⟨H24, by rw [(Z4S hc10).2]; rfl, (Z4S hc10).1.symm⟩
  exact (.cons rfl ZN .nil)
 rintro ⟨E, en⟩ w35 ⟨H35, hE, hen⟩
 show RunC P _ _ _ (_ :: _) _
 refine Z03 (Z00 (Zm ?_))
 refine Zc func170 (run8 E (by rw [hE]; simp only [List.length_drop]; omega) w35) ?_
 rintro _ w36 ⟨rfl, hG⟩
 have H36 := hG _ _ _ _ H35
 simp only [Zca, Zna] at H36
 refine Zm ?_
 refine Zx (Zx (Z0b Z4E rfl rfl rfl ?_))
 refine Z0w H36 .head (by repeat (first | exact .zero | apply Z1g.succ)) rfl tz9 rfl rfl ZR (fun w37 H37 => ?_)
 refine Zg (Z02 (Z01 ?_))
 refine Zk [0, 2, 4] ?_
 refine Z03 (Z00 ?_)
 refine Z0e H37 mem0 rfl rfl underlying143 rfl Z1q rfl (.take (.take (.take (.take (.take (.take .nil)))))) ?_
 refine Z0b Z4E rfl rfl rfl ?_
 refine Z07 H37 mem0 rfl rfl underlying9 rfl rfl rfl ?_
 refine l_neqs rfl rfl rfl rfl ?_
 refine Zm ?_
 apply Z13 2 [2, 110] rfl rfl (.cons rfl (.cons rfl (.cons rfl .nil))) rfl rfl (fun _ => rfl) rfl rfl rfl
 ·intro hg29_5
  refine Zm ?_
  refine Z2R rfl rfl rfl rfl ?_
  refine Z02 ?_
  exact Z0n rfl (.cons rfl (ZT hg29_5) (.cons rfl rfl (.cons rfl rfl .nil)))
 refine Z0a H37 (.tail .head) (.zero (.zero (.zero (.zero (.zero (.zero .nil)))))) rfl Z1q rfl rfl ZC (fun w38 H38 => ?_)
 refine Zg (Z02 (Z01 ?_))
 refine Z0f ?_
 refine Z0p results132 (.cell rfl (Z0k H38 mem1 underlying143 rfl Z1q (.take (.take (.take (.take (.take (.take .nil))))))) (.tmp rfl .nil)) rfl ?_
 refine ⟨_, rfl, ?_⟩
 have H40 := St.del .head (St.del (.tail .head) H38)
 subst hng hen
 exact ⟨_, _, _, _, _, _, _, rfl, .exp hb hw hf hc7 hc8 (e_or hc9) hE, H40.grows⟩
theorem Z2K {l : L8} {k : Nat} (h : k < l.length) : l.getD k 0 ∈ l := by
 have e : l.getD k 0 = l[k] := by simp [List.getD, h]
 rw [e]
 exact List.getElem_mem h
theorem ext_mem {i : Nat} (h : i < 12) : exts.getD i [] ∈ exts := by
 have key : ∀ k : Fin 12, exts.getD k.val [] ∈ exts := by decide
 exact key ⟨i, h⟩
theorem begins8 (s : L8) (hL : s.length ≤ 1099511627000) (w : World) :
    Z0g P 133 [str s] w fun r w' => r = .bool (decide (¬ go 0 s = 19)) ∧ Grow w w' [] := by
  refine Z0o func133 rfl ntmps133 rfl ?_
  have H0 := St.start w
  refine Z03 (Z00 (Zg (Z02 (Z01 (Z03 (Z00 ?_))))))
  refine Z17 H0 rfl rfl underlying46 ti9 rfl (.cons rfl ZR (.cons rfl ZR (.cons rfl ZR (.cons rfl ZR (.cons rfl ZR (.cons rfl ZR (.cons rfl ZR (.cons rfl ZR (.cons rfl ZR (.cons rfl ZR (.cons rfl ZR (.cons rfl ZR .nil)))))))))))) rfl rfl rfl (fun b1_0 w1 H1 => ?_)
  refine Zg (Z02 (Z01 (Z03 (Z03 (Z00 (Zg (Z02 (Z01 (Z0c ?_)))))))))
  refine Z0v (ι := Nat) (fun (i : Nat) => 12 - i) (fun (i : Nat) (w' : World) => St w w.heap.size Z0B ([As.blk b1_0 9 (exts.map str)]) w' ∧ i ≤ 12 ∧ ∀ j, j < i → acc (go 0 (s ++ exts.getD j [])) = false) (fun (i : Nat) => [(4, .int .i64 (i : Int))]) [0, 3] (0) ?_ (.cons rfl (.cons rfl .nil)) ?_ ?_
  · exact ⟨H1, ZO, fun j hj => by omega⟩
  · exact (.cons rfl ZN .nil)
  rintro i w2 ⟨H2, hi, hno⟩
  show RunC P _ _ _ (_ :: _) _
  refine Z03 (Z03 (Z00 (Zm (Zm ?_))))
  refine v_len rfl rfl underlying46 rfl (by first | exact H2.ibl mem0 | assumption) ?_
  refine Zl ?_
  refine Z02 (Z01 ?_)
  refine Zk [0, 3, 4, 11] ?_
  (first | refine Z08 rfl ?_ ?_ | refine Z05 rfl ?_ ?_) <;> intro hc0
  · skip
    refine Z09 (Z01 (Z03 (Z0c (Z03 (Z00 ?_)))))
    have h12e : (exts.map str).length = 12 := by simp [exts]
    have hi1 : i < 12 := by omega
    have hel := ext_len (i := i)
    refine Zm (Zm (Zm ?_))
    refine v_get rfl rfl rfl rfl underlying46 tz9 underlying9 rfl rfl rfl (by first | exact H2.ibl mem0 | assumption) ZI (ext_at hi1) ?_ rfl
    refine l_adds (l := exts.getD i []) rfl rfl rfl rfl ZO ?_
    refine Zc func132 (cut8 (s ++ exts.getD i []) (by rw [List.length_append]; omega) w2) ?_
    rintro _ w3 ⟨ng, wd, W, F, en, E, ok, rfl, hR, hG⟩
    have H3 := hG _ _ _ _ H2
    simp only [Zca, Zna] at H3
    refine Zm ?_
    refine Zx (Zx ?_)
    refine Z0H H3 Z5L rfl rfl (fun b5_10 w4 H4 => ?_)
    refine Z0a H4 .head (.zero (.zero (.zero (.zero (.zero (.zero .nil)))))) rfl Z1q rfl rfl ZC (fun w5 H5 => ?_)
    refine Zg (Z02 (Z01 (Z03 (Z00 (Zm (Z02 (Z01 ?_)))))))
    refine Zk [0, 3, 4, 24] ?_
    (first | refine Z08 rfl ?_ ?_ | refine Z05 rfl ?_ ?_) <;> intro hc1
    · skip
      refine Z03 (Z00 (Zg (Z02 (Z01 ?_))))
      refine Z0f ?_
      refine Z0r ?_
      refine Z06 ?_
      refine Z06 ?_
      refine Z0r ?_
      refine Z06 ?_
      refine Z0l results133 rfl ?_
      refine ⟨_, rfl, ?_⟩
      have H7 := St.del .head (St.del (.tail .head) H5)
      have hy : exts.any (fun e => acc (go 0 (s ++ e))) = true := by
        rw [List.any_eq_true]
        exact ⟨exts.getD i [], ext_mem hi1, by rw [← hR.state]; exact hc1⟩
      exact ⟨by rw [← live_iff, hy], H7.grows⟩
    refine Z09 ?_
    refine Z0z ?_
    refine Z01 (Z00 (Zm ?_))
    refine Z0t rfl rfl rfl rfl (Z0h ZO) ?_
    refine Zg (Z02 ?_)
    have H8 := St.del .head H5
    refine Z0j (i := (i)) (i + 1) ?_ ?_ (.cons rfl (.cons rfl .nil)) ?_
    · first | omega | (simp; omega)
    · refine ⟨H8, ZO, fun j hj => ?_⟩
      rcases Nat.lt_or_ge j i with h | h
      · exact hno j h
      obtain rfl : j = i := by omega
      rw [← hR.state]
      exact hc1
    exact (.cons rfl ZN .nil)
  refine Z0y ?_
  refine Z04 ?_
  refine Z04 ?_
  refine Z0d ?_
  refine Z01 ?_
  refine Zk [] ?_
  refine Z03 (Z00 (Zg (Z02 (Z01 ?_))))
  refine Z0f ?_
  refine Z0l results133 rfl ?_
  refine ⟨_, rfl, ?_⟩
  have H9 := St.del .head H2
  have hi12 : i = 12 := by have h12 : (exts.map str).length = 12 := by simp [exts]
                           omega
  have hy : exts.any (fun e => acc (go 0 (s ++ e))) = false := by
    rw [List.any_eq_false]
    intro e he
    obtain ⟨j, hj, rfl⟩ := List.getElem_of_mem he
    have := hno j (by have : exts.length = 12 := rfl
                      omega)
    have e : exts.getD j [] = exts[j] := by simp [List.getD, hj]
    rw [e] at this
    rw [this]; decide
  exact ⟨by rw [← live_iff, hy], H9.grows⟩
theorem check8 (v : Value) (t : L8) (hL : t.length ≤ 1099511627776) (w : World) (hv : IB w v t) :
  Z0g P 68 [v] w fun r w' => ∃ ng wd W F en E p e, r = .tuple #[.agg #[.bool ng, .int .i64 wd, str W, str F, .bool en, str E], .int .i64 p, .int .i64 e] ∧ ChkR t ng wd W F en E p e ∧ Grow w w' [] := by
 refine Z0o func68 rfl ntmps68 rfl ?_
 have H0 := St.start w
 refine Z03 (Z00 ?_)
 refine Z0H H0 Z5L rfl rfl (fun b0_0 w1 H1 => ?_)
 refine Zg (Zg (Z02 (Z01 (Z03 (Z03 (Z00 (Zm ?_)))))))
 refine Z0I rfl rfl underlying26 rfl (by first | exact H1.ibl mem0 | exact H1.iarg hv | assumption) ?_
 refine Zw ?_
 refine Z02 (Z01 ?_)
 (first | refine Z08 rfl ?_ ?_ | refine Z05 rfl ?_ ?_) <;> intro hc0
 ·refine Z03 (Z00 ?_)
  refine Z0Q rfl rfl pl143 Z5L .nil ?_
  refine Z0a H1 .head (.zero (.zero (.zero (.zero (.zero (.zero .nil)))))) rfl Z1q rfl rfl ZC (fun w2 H2 => ?_)
  refine Zg (Zg (Z02 (Z01 ?_)))
  refine Zk [2, 3, 4] ?_
  refine Z0f ?_
  refine Z06 ?_
  refine Z0p results68 (.cell rfl (Z0k H2 mem0 underlying143 rfl Z1q (.take (.take (.take (.take (.take (.take .nil))))))) (.tmp rfl (.tmp rfl .nil))) rfl ?_
  refine ⟨_, rfl, ?_⟩
  have H3 := St.del .head H2
  exact ⟨_, _, _, _, _, _, _, _, rfl, .long ZO, H3.grows⟩
 refine Z09 (Z01 (Z03 (Z00 (Zm ?_))))
 refine Z3l (l := t) rfl rfl underlying26 underlying5 underlying9 rfl (by first | exact H1.ibl mem0 | exact H1.iarg hv | assumption) ?_
 refine Zc func132 (cut8 t hL w1) ?_
 rintro _ w4 ⟨ng, wd, W, F, en, E, ok, rfl, hR, hG⟩
 have H4 := hG _ _ _ _ H1
 simp only [Zca, Zna] at H4
 refine Zm ?_
 refine Zx (Zx ?_)
 refine Z0H H4 Z5L rfl rfl (fun b3_6 w5 H5 => ?_)
 refine Z0a H5 .head (.zero (.zero (.zero (.zero (.zero (.zero .nil)))))) rfl Z1q rfl rfl ZC (fun w6 H6 => ?_)
 refine Zg (Z02 (Z01 (Z03 (Z03 (Z00 (Zm (Z02 (Z01 ?_))))))))
 refine Zk [0, 2, 5, 20] ?_
 (first | refine Z08 rfl ?_ ?_ | refine Z05 rfl ?_ ?_) <;> intro hc1
 ·refine Z03 (Z00 ?_)
  refine Z0e H6 mem0 rfl rfl underlying143 rfl Z1q rfl (.take (.take (.take (.take (.take (.take .nil)))))) ?_
  refine Z0a H6 (.tail .head) (.zero (.zero (.zero (.zero (.zero (.zero .nil)))))) rfl Z1q rfl rfl ZC (fun w7 H7 => ?_)
  refine Zg (Zg (Z02 (Z01 ?_)))
  refine Z0f ?_
  refine Z06 ?_
  refine Z0p results68 (.cell rfl (Z0k H7 mem1 underlying143 rfl Z1q (.take (.take (.take (.take (.take (.take .nil))))))) (.tmp rfl (.tmp rfl .nil))) rfl ?_
  refine ⟨_, rfl, ?_⟩
  have H9 := St.del .head (St.del (.tail .head) H7)
  subst hc1
  exact ⟨_, _, _, _, _, _, _, _, rfl, .ok ZO hR, H9.grows⟩
 refine Z09 (Z01 (Z03 (Z00 (Zm ?_))))
 refine Z0I rfl rfl underlying26 rfl (by first | exact H6.ibl mem0 | exact H6.ibl mem1 | exact H6.iarg hv | assumption) ?_
 refine Z0t rfl rfl rfl rfl (Z0h ZO) ?_
 refine Zg (Zg (Z02 (Z01 ?_)))
 refine Zk [0, 2, 7, 8] ?_
 refine Z03 (Z0c ?_)
 refine Z0v (ι := Nat × Nat) (fun (z0 : Nat × Nat) => match z0 with | ⟨lo, hi⟩ => hi - lo) (fun (z0 : Nat × Nat) (w' : World) => match z0 with | ⟨lo, hi⟩ => St w w.heap.size Z0B ([As.blk b0_0 143 [.bool false, .int .i64 0, str [], str [], .bool false, str []]]) w' ∧ lo < hi ∧ hi ≤ t.length + 1 ∧ ¬ st t lo = 19 ∧ (hi ≤ t.length → st t hi = 19)) (fun (z0 : Nat × Nat) => match z0 with | ⟨lo, hi⟩ => [(7, .int .i64 (lo : Int)), (8, .int .i64 (hi : Int))]) [0, 2] (0, t.length + 1) ?_ (.cons rfl (.cons rfl .nil)) ?_ ?_
 ·exact ⟨St.del (.head) H6, ZO, ZO, (by show ¬ (0 : Nat) = 19; omega), fun h => by omega⟩
 ·exact (.cons rfl ZN (.cons rfl ZN .nil))
 rintro ⟨lo, hi⟩ w10 ⟨H10, hlh, hhi, hlo, hh⟩
 show RunC P _ _ _ (_ :: _) _
 refine Z03 (Z03 (Z00 (Zm (Zm ?_))))
 refine Z0F rfl rfl rfl rfl (Z0h ZO) ?_
 refine Zw ?_
 refine Z02 (Z01 ?_)
 (first | refine Z08 rfl ?_ ?_ | refine Z05 rfl ?_ ?_) <;> intro hc2
 ·refine Z09 (Z01 (Z0c (Z03 (Z00 (Zm (Zm ?_))))))
  refine Z0t rfl rfl rfl rfl (Z0h ZO) ?_
  refine Z2W rfl rfl rfl rfl ZO (Z4x ZO) ?_
  refine Z0q (s := 32) (v' := .int .i64 (((lo + hi) / 2 : Nat) : Int)) rfl (congrArg (Value.int .i64) ZO) ?_
  refine Zg (Z02 (Z01 ?_))
  refine Zk [0, 2, 7, 8, 9] ?_
  refine Z03 (Z00 (Zm (Zm ?_)))
  refine Z2O (l := 0) (h := (lo + hi) / 2) rfl rfl underlying26 tz5 rfl rfl rfl rfl (by first | exact H10.ibl mem0 | exact H10.iarg hv | assumption) ZD ZD (.inl rfl) (by simp) ZO ZI (fun v9_2 h9_2 ho9_2 => ?_)
  rw [Z1G, List.drop_zero] at h9_2
  refine Z3l (l := t.take ((lo + hi) / 2)) rfl rfl underlying26 underlying5 underlying9 rfl (by first | exact H10.ibl mem0 | exact H10.iarg hv | assumption) ?_
  have hstr : (t.take ((lo + hi) / 2)).length ≤ t.length := by rw [List.length_take]; omega
  refine Zc func133 (begins8 (t.take ((lo + hi) / 2)) ZO w10) ?_
  rintro _ w11 ⟨rfl, hG⟩
  have H11 := hG _ _ _ _ H10
  simp only [Zca, Zna] at H11
  refine Z02 (Z01 ?_)
  (first | refine Z08 rfl ?_ ?_ | refine Z05 rfl ?_ ?_) <;> intro hc3
  ·refine Z00 (Zm (Zg (Z02 ?_)))
   refine Z0z ?_
   refine Z0j (i := (lo, hi)) ((lo + hi) / 2, hi) ?_ ?_ (.cons rfl (.cons rfl .nil)) ?_
   ·first | omega | (simp; omega)
   ·exact ⟨H11, ZO, ZO, hc3, hh⟩
   exact (.cons rfl ZN (.cons rfl ZN .nil))
  refine Z00 (Zm (Zg (Z02 ?_)))
  refine Z0z ?_
  refine Z0j (i := (lo, hi)) (lo, (lo + hi) / 2) ?_ ?_ (.cons rfl (.cons rfl .nil)) ?_
  ·first | omega | (simp; omega)
  ·exact ⟨H11, ZO, ZO, hlo, fun _ => Classical.not_not.1 hc3⟩
  exact (.cons rfl ZN (.cons rfl ZN .nil))
 refine Z0y ?_
 refine Z04 ?_
 refine Z04 ?_
 refine Z0d ?_
 refine Z01 (Z03 (Z00 ?_))
 refine Z0Q rfl rfl pl143 Z5L .nil ?_
 refine Zm ?_
 refine Z0a H10 .head (.zero (.zero (.zero (.zero (.zero (.zero .nil)))))) rfl Z1q rfl rfl ZC (fun w12 H12 => ?_)
 refine Zg (Zg (Z02 (Z01 ?_)))
 refine Zk [2, 3, 4] ?_
 refine Z0f ?_
 refine Z0p results68 (.cell rfl (Z0k H12 mem0 underlying143 rfl Z1q (.take (.take (.take (.take (.take (.take .nil))))))) (.tmp rfl (.tmp rfl .nil))) rfl ?_
 refine ⟨_, rfl, ?_⟩
 have H13 := St.del .head H12
 exact ⟨_, _, _, _, _, _, _, _, rfl, .form (RC.form (hc1 ▸ hR) ZO ZO hlo (fun h => st_mono (hh ZO) ZO)), H13.grows⟩
theorem expo8 (ng : Bool) (wd : Int) (W F : L8) (en : Bool) (E : L8) (hE : ∀ x ∈ E, isD x) (hL : E.length ≤ 1099511627776) (w : World) :
  Z0g P 71 [.agg #[.bool ng, .int .i64 wd, str W, str F, .bool en, str E]] w fun r w' => r = .int .i64 (expS en E) ∧ Grow w w' [] := by
 refine Z0o func71 rfl ntmps71 rfl ?_
 have H0 := St.start w
 refine Z03 (Z00 ?_)
 refine Z2f H0 rfl rfl rfl (fun b0_0 w1 H1 => ?_)
 refine Zg (Z02 (Z01 (Z03 (Z00 (Zg (Z02 (Z01 (Z03 (Z03 (Z00 (Zg ?_)))))))))))
 refine Z02 (Z01 (Z0c ?_))
 refine Z0v (ι := Nat × Int) (fun (z0 : Nat × Int) => match z0 with | ⟨k, x⟩ => E.length - k) (fun (z0 : Nat × Int) (w' : World) => match z0 with | ⟨k, x⟩ => St w w.heap.size Z0B ([As.blk b0_0 143 [.bool ng, .int .i64 wd, str W, str F, .bool en, str E]]) w' ∧ k ≤ E.length ∧ x = expo (E.take k) ∧ 0 ≤ x ∧ x ≤ 99999) (fun (z0 : Nat × Int) => match z0 with | ⟨k, x⟩ => [(3, .int .i64 x), (4, .int .i64 (k : Int))]) [1] (0, 0) ?_ (.cons rfl .nil) ?_ ?_
 ·exact ⟨H1, ZO, rfl, ZO, ZO⟩
 ·exact (.cons rfl ZN (.cons rfl ZN .nil))
 rintro ⟨k, x⟩ w2 ⟨H2, hk, hx, hx0, hx9⟩
 show RunC P _ _ _ (_ :: _) _
 refine Z03 (Z03 (Z00 (Zm (Z0b Z4E rfl rfl rfl ?_))))
 refine Z07 H2 mem0 rfl rfl underlying9 rfl rfl rfl ?_
 refine Z0X rfl rfl underlying9 rfl ?_
 refine Zl ?_
 refine Z02 (Z01 ?_)
 (first | refine Z08 rfl ?_ ?_ | refine Z05 rfl ?_ ?_) <;> intro hc0
 ·refine Z09 (Z01 ?_)
  refine Zk [1, 3, 4] ?_
  refine Z03 (Z0c (Z03 (Z00 ?_)))
  have hdk : isD (E.getD k 0) := hE _ (Z2K ZO)
  unfold isD at hdk
  refine Zm ?_
  refine Z1m rfl rfl rfl rfl (Z0h ZO) ?_
  refine Z0b Z4E rfl rfl rfl ?_
  refine Z07 H2 mem0 rfl rfl underlying9 rfl rfl rfl ?_
  refine Zm ?_
  refine Z1y (j := k) rfl rfl underlying9 rfl rfl ZO ZI (fun hb5_5 => ?_)
  refine Z0F rfl rfl rfl rfl (w_u8 ZO) ?_
  refine Z1A rfl rfl underlying5 underlying3 rfl (Z0h ZO) ?_
  refine Z0t rfl rfl rfl rfl (Z0h ZO) ?_
  refine Zg (Z02 (Z01 (Z03 (Z00 (Zm ?_)))))
  refine Zw ?_
  refine Z02 (Z01 ?_)
  (first | refine Z08 rfl ?_ ?_ | refine Z05 rfl ?_ ?_) <;> intro hc1
  ·refine Z03 (Z00 (Zg (Z02 (Z01 ?_))))
   refine Zk [1, 3] ?_
   refine Z0y ?_
   refine Z2o rfl ?_
   refine Z04 ?_
   refine Z04 ?_
   refine Z0d ?_
   refine Z01 (Z03 (Z03 (Z00 ?_)))
   have hxE : expo E = 99999 := by
    rw [← List.take_append_drop (k + 1) E]
    exact expo_keep _ _ (fun y hy => hE y (List.mem_of_mem_drop hy)) (by rw [expo_next ZO, ← hx]; omega)
   refine Z0b fo143_4 rfl rfl rfl ?_
   refine Z07 H2 mem0 rfl rfl underlying4 rfl rfl rfl ?_
   refine Z02 (Z01 ?_)
   (first | refine Z08 rfl ?_ ?_ | refine Z05 rfl ?_ ?_) <;> intro hc2
   ·refine Z03 (Z00 (Zm ?_))
    refine Z2u rfl rfl rfl (Z0h ZO) ?_
    refine Zg (Z02 (Z01 ?_))
    refine Z0f ?_
    refine Z06 ?_
    refine Z0l results71 rfl ?_
    refine ⟨_, rfl, ?_⟩
    have H3 := St.del .head H2
    refine ⟨?_, H3.grows⟩
    unfold expS
    first | (rw [if_pos ZA, hxE]; done) | (rw [if_pos ZA, hxE]; rfl)
   refine Z09 (Z01 ?_)
   refine Zk [3] ?_
   refine Z03 (Z00 (Zm (Zg (Z02 (Z01 ?_)))))
   refine Z0f ?_
   refine Z0l results71 rfl ?_
   refine ⟨_, rfl, ?_⟩
   have H4 := St.del .head H2
   refine ⟨?_, H4.grows⟩
   unfold expS
   rw [if_neg (by rw [‹en = false›]; decide), hxE]
  refine Z09 ?_
  refine Z0z ?_
  refine Z01 (Z00 (Zm ?_))
  refine Z0t rfl rfl rfl rfl (Z0h ZO) ?_
  refine Zg (Z02 ?_)
  refine Z0j (i := (k, x)) (k + 1, 10 * x + (((E.getD k 0).toNat : Int) - 48)) ?_ ?_ (.cons rfl .nil) ?_
  ·first | omega | (simp; omega)
  ·exact ⟨H2, ZO, by rw [expo_next ZO, ← hx]; omega, ZO, ZO⟩
  exact (.cons rfl ZN (.cons rfl ZN .nil))
 refine Z0y ?_
 refine Z04 ?_
 refine Z04 ?_
 refine Z0d ?_
 refine Z01 ?_
 refine Zk [1, 3] ?_
 refine Z03 (Z03 (Z00 ?_))
 have hxE : expo E = x := by rw [hx, List.take_of_length_le ZO]
 refine Z0b fo143_4 rfl rfl rfl ?_
 refine Z07 H2 mem0 rfl rfl underlying4 rfl rfl rfl ?_
 refine Z02 (Z01 ?_)
 (first | refine Z08 rfl ?_ ?_ | refine Z05 rfl ?_ ?_) <;> intro hc3
 ·refine Z03 (Z00 (Zm ?_))
  refine Z2u rfl rfl rfl (Z0h ZO) ?_
  refine Zg (Z02 (Z01 ?_))
  refine Z0f ?_
  refine Z06 ?_
  refine Z0l results71 rfl ?_
  refine ⟨_, rfl, ?_⟩
  have H5 := St.del .head H2
  refine ⟨?_, H5.grows⟩
  unfold expS
  first | (rw [if_pos ZA, hxE]; done) | (rw [if_pos ZA, hxE]; rfl)
 refine Z09 (Z01 ?_)
 refine Zk [3] ?_
 refine Z03 (Z00 (Zm (Zg (Z02 (Z01 ?_)))))
 refine Z0f ?_
 refine Z0l results71 rfl ?_
 refine ⟨_, rfl, ?_⟩
 have H6 := St.del .head H2
 refine ⟨?_, H6.grows⟩
 unfold expS
 rw [if_neg (by rw [‹en = false›]; decide), hxE]
theorem all8R (ng : Bool) (wd : Int) (W F : L8) (en : Bool) (E : L8) (hLW : W.length ≤ 1099511627776) (hLF : F.length ≤ 1099511627776) (w : World) :
  Z0g P 69 [.agg #[.bool ng, .int .i64 wd, str W, str F, .bool en, str E]] w fun r w' => r = str (Z0P (W ++ F)) ∧ Grow w w' [] := by
 refine Z0o func69 rfl ntmps69 rfl ?_
 have H0 := St.start w
 refine Z03 (Z00 ?_)
 refine Z2f H0 rfl rfl rfl (fun b0_0 w1 H1 => ?_)
 refine Zg (Z02 (Z01 (Z03 (Z00 (Z0b fo143_2 rfl rfl rfl ?_)))))
 refine Z07 H1 mem0 rfl rfl underlying9 rfl rfl rfl ?_
 refine Z0b Z4D rfl rfl rfl ?_
 refine Z07 H1 mem0 rfl rfl underlying9 rfl rfl rfl ?_
 refine l_adds rfl rfl rfl rfl (by first | omega | (simp only [List.length_append, List.length_cons, List.length_nil] at *; omega)) ?_
 refine Zg (Z02 (Z01 (Z03 (Z0c ?_))))
 refine Z0v (ι := Nat) (fun (z : Nat) => (W ++ F).length - z) (fun (z : Nat) (w' : World) => St w w.heap.size Z0B ([As.blk b0_0 143 [.bool ng, .int .i64 wd, str W, str F, .bool en, str E]]) w' ∧ z ≤ (W ++ F).length ∧ ∀ j, j < z → (W ++ F).getD j 0 = 48) (fun (z : Nat) => [(3, str ((W ++ F).drop z))]) [] (0) ?_ .nil ?_ ?_
 ·exact ⟨H1, ZO, fun j hj => by omega⟩
 ·exact (.cons rfl ZN .nil)
 rintro z w2 ⟨H2, hz, hzs⟩
 show RunC P _ _ _ (_ :: _) _
 have hlz : ((W ++ F).drop z).length = (W ++ F).length - z := List.length_drop
 have hlW : (W ++ F).length = W.length + F.length := by simp
 refine Z03 (Z03 (Z00 (Zm ?_)))
 refine l_neqs rfl rfl rfl rfl ?_
 refine Zm ?_
 apply Z13 3 [3] rfl rfl (.cons rfl (.cons rfl .nil)) rfl rfl (fun _ => rfl) rfl rfl rfl
 ·intro hg2_3
  refine Zm ?_
  have h0 := Z1B hg2_3
  refine Z1y (j := 0) rfl rfl underlying9 rfl rfl ZO ZI (fun hb2_4 => ?_)
  refine Ze ?_
  refine Z02 ?_
  exact Z0n rfl (.cons rfl (ZT hg2_3) (.cons rfl rfl .nil))
 refine Z02 (Z01 ?_)
 refine Zk [3, 15] ?_
 (first | refine Z08 rfl ?_ ?_ | refine Z05 rfl ?_ ?_) <;> intro hc0
 ·refine Z09 (Z01 (Z0c (Z00 (Zm ?_))))
  have h0 := Z1B hc0.1
  refine Z1K (l := 1) (h := ((W ++ F).drop z).length) rfl rfl underlying9 rfl rfl rfl ZD ZD ZO ZI ?_
  refine Zg (Z02 ?_)
  refine Z0z ?_
  refine Z0j (i := (z)) (z + 1) ?_ ?_ .nil ?_
  ·have := Z1B hc0.1
   show (W ++ F).length - (z + 1) < (W ++ F).length - z
   omega
  ·refine ⟨H2, by have := Z1B hc0.1; omega, fun j hj => ?_⟩
   rcases Nat.lt_or_ge j z with h | h
   ·exact hzs j h
   obtain rfl : j = z := by omega
   have := hc0.2
   rw [Z0G] at this
   exact (Z1R (d := 48)).1 this
  exact (.cons rfl (by rw [List.take_length, List.drop_drop]) .nil)
 refine Z0y ?_
 refine Z04 ?_
 refine Z04 ?_
 refine Z0d ?_
 refine Z01 (Z03 (Z00 (Zm (Zg (Z02 (Z01 ?_))))))
 refine Zk [2] ?_
 refine Z0f ?_
 refine Z0l results69 rfl ?_
 refine ⟨_, rfl, ?_⟩
 have H3 := St.del .head H2
 have hsk : Z0P (W ++ F) = (W ++ F).drop z := Z3z _ z hz hzs (fun h h2 => hc0 ⟨fun e => by rw [e] at hlz; simp at hlz; omega, by rw [Z0G]; exact (Z1R (d := 48)).2 h2⟩)
 exact ⟨by rw [hsk], H3.grows⟩
theorem Z5P (v : Value) (l : L8) (hd : ∀ j, j < l.length → isD (l.getD j 0)) (hL : l.length ≤ 4000) (w : World) (hv : IB w v l) :
  Z0g P 80 [v] w fun r w' => ∃ v ls, r = v ∧ R16 ls (pv l) ∧ Grow w w' [As.ri 3 .i64 v ls] := by
 refine Z0o func80 rfl ntmps80 rfl ?_
 have H0 := St.start w
 refine Z03 (Z00 (Zg (Z02 (Z01 (Z03 (Z00 (Zg (Z02 (Z01 (Z03 (Z03 ?_)))))))))))
 refine Z00 (Zg (Z02 (Z01 (Z0c ?_))))
 refine Z0v (ι := Nat × List Int × Value) (fun (z0 : Nat × List Int × Value) => match z0 with | ⟨k, lx, vx⟩ => l.length - k) (fun (z0 : Nat × List Int × Value) (w' : World) => match z0 with | ⟨k, lx, vx⟩ => St w w.heap.size Z0B ([As.ri 3 .i64 vx lx]) w' ∧ k ≤ l.length ∧ R16 lx (pv (l.take k)) ∧ Ma.blen (pv (l.take k)) ≤ 4 * k) (fun (z0 : Nat × List Int × Value) => match z0 with | ⟨k, lx, vx⟩ => [(3, vx), (4, .int .i64 (k : Int))]) [0] (0, [], .slice none 0 0) ?_ (.cons rfl .nil) ?_ ?_
 ·exact ⟨H0.nil 3, ZO, Ma.Cn.nil, by rw [List.take_zero]; decide⟩
 ·exact (.cons rfl ZN (.cons rfl ZN .nil))
 rintro ⟨k, lx, vx⟩ w1 ⟨H1, hk, hRx, hbx⟩
 show RunC P _ _ _ (_ :: _) _
 refine Z03 (Z03 (Z00 (Zm (Zm ?_))))
 refine Z0I rfl rfl underlying26 rfl (by first | exact H1.io mem0 | exact H1.iarg hv | assumption) ?_
 refine Zl ?_
 refine Z02 (Z01 ?_)
 (first | refine Z08 rfl ?_ ?_ | refine Z05 rfl ?_ ?_) <;> intro hc0
 ·refine Z09 (Z01 ?_)
  refine Zk [0, 3, 4] ?_
  refine Z03 (Z0c ?_)
  have H2 := H1.drewn
  obtain ⟨A5, c5, hv5⟩ := (H2.iarg hv).lies (by simp; omega)
  have hdk := hd k ZO
  unfold isD at hdk
  have hlx := hRx.len (k := 16000) ZO
  refine Z2t (n := 13) [Zz,Zz,Zz,Zz,Zz,Zz,Zz,Zz,Zz,Zz,Zz,Zz,Zz] (fun wS => IB wS v l) ZK rfl rfl ?_
  apply Zu (L' := [Zy,Zz,Zz,Zz,Zz,Zz,Zz,Zz,Zz,Zz,Zz,Zz,Zz]) 0 (H2.iarg hv)
  ·intro wS sS
   refine Zm (Z02 ?_)
   exact Z0m rfl
  apply Zu (L' := [Zy,Zz,Zz,Zy,Zz,Zz,Zz,Zz,Zz,Zz,Zz,Zz,Zz]) 3 (H2.iarg hv)
  ·intro wS sS
   refine Zm (Z02 ?_)
   exact Z0m rfl
  apply Zu (L' := [Zy,Zz,Zz,Zy,Zy,Zz,Zz,Zz,Zz,Zz,Zz,Zz,Zz]) 4 (H2.iarg hv)
  ·intro wS sS
   refine Zm (Z02 ?_)
   exact Z0m rfl
  apply Zu (L' := [Zy,Zz,Zz,Zy,Zy,Zy,Zz,Zz,Zz,Zz,Zz,Zz,Zz]) 5 (H2.iarg hv)
  ·intro wS sS
   refine Z1o (j := k) rfl rfl underlying26 tz5 rfl rfl hv5 ZP ZI ?_
   refine Z02 ?_
   exact Z0m rfl
  apply Zu (L' := [Zy,Zz,Zz,Zy,Zy,Zy,Zy,Zz,Zz,Zz,Zz,Zz,Zz]) 6 (H2.iarg hv)
  ·intro wS sS
   refine Z3S rfl rfl underlying5 rfl hv5 (by first | exact H2.io mem0 | exact H2.iarg hv | assumption) ZI (fun hb5_6 => ?_)
   refine Z02 ?_
   exact Z0m rfl
  apply Zu (L' := [Zy,Zz,Zz,Zy,Zy,Zy,Zy,Zy,Zz,Zz,Zz,Zz,Zz]) 7 (H2.iarg hv)
  ·intro wS sS
   refine Z0F rfl rfl rfl rfl (w_u8 ZO) ?_
   refine Z02 ?_
   exact Z0m rfl
  apply Zu (L' := [Zy,Zz,Zz,Zy,Zy,Zy,Zy,Zy,Zy,Zz,Zz,Zz,Zz]) 8 (H2.iarg hv)
  ·intro wS sS
   refine Z1A rfl rfl underlying5 underlying30 rfl (Z0M ZO) ?_
   refine Z02 ?_
   exact Z0m rfl
  refine Z3T (L' := [Zy,Zy,Zz,Zy,Zy,Zy,Zy,Zy,Zy,Zz,Zz,Zz,Zz]) (L'' := [Zy,Zz,Zz,Zy,Zy,Zy,Zy,Zy,Zy,Zy,Zz,Zz,Zz]) 1 9 ZK rfl rfl rfl rfl ?_ ?_
  ·refine Z17 H2 rfl rfl underlying64 ti3 rfl (.cons rfl ZR .nil) rfl rfl rfl (fun b5_1 w3 H3 => ?_)
   refine Z02 ?_
   refine Z0D (H3.iarg hv) ?_
   refine Z3T (L' := [Zy,Zy,Zy,Zy,Zy,Zy,Zy,Zy,Zy,Zz,Zz,Zz,Zz]) (L'' := [Zy,Zy,Zz,Zy,Zy,Zy,Zy,Zy,Zy,Zy,Zz,Zz,Zz]) 2 9 ZK rfl rfl rfl rfl ?_ ?_
   ·refine Z0N rfl rfl func34 rfl rfl (.cons rfl (.cons rfl .nil)) (Z5i _ _ _ _ _ _ hRx R16.ten ZO (by simp) w3 (H3.io mem1) (H3.ibl mem0)) ?_
    rintro vp w4 ⟨_, lp, rfl, hRp, hG⟩
    have H4 := hG _ _ _ _ H3
    simp only [Zca, Zna] at H4
    refine Z02 ?_
    refine Z0D (H4.iarg hv) ?_
    refine Z0K (L' := [Zy,Zy,Zy,Zy,Zy,Zy,Zy,Zy,Zy,Zy,Zz,Zz,Zz]) 9 ZK rfl rfl ?_
    refine Z17 H4 rfl rfl underlying47 ti30 rfl (.cons rfl ZR .nil) rfl rfl rfl (fun b5_9 w5 H5 => ?_)
    refine Z02 ?_
    refine Z0D (H5.iarg hv) ?_
    refine Z0K (L' := [Zy,Zy,Zy,Zy,Zy,Zy,Zy,Zy,Zy,Zy,Zy,Zz,Zz]) 10 ZK rfl rfl ?_
    refine Z0N rfl rfl func76 rfl rfl (.cons rfl .nil) (numR _ [((l.getD k 0).toNat : Int) - 48] (U.one ZO) (by simp) w5 (H5.ibl mem0)) ?_
    rintro vn w6 ⟨_, ln, rfl, hRn, hG⟩
    have H6 := hG _ _ _ _ H5
    simp only [Zca, Zna] at H6
    refine Z02 ?_
    refine Z0D (H6.iarg hv) ?_
    refine Z0K (L' := [Zy,Zy,Zy,Zy,Zy,Zy,Zy,Zy,Zy,Zy,Zy,Zy,Zz]) 11 ZK rfl rfl ?_
    refine Z0N rfl rfl func101 rfl rfl (.cons rfl (.cons rfl .nil)) (sumR _ _ _ _ _ _ hRp hRn (by have := hRp.len (k := 16004) (by have := Z4a (hRx.nonneg ZO); omega); omega) (by have := R16.len_num (U.one ZO) hRn; simp at this; omega) w6 (H6.io mem2) (H6.io mem0)) ?_
    rintro vs w7 ⟨_, ls2, rfl, hRs, hG⟩
    have H7 := hG _ _ _ _ H6
    simp only [Zca, Zna] at H7
    refine Z02 ?_
    refine Z0D (H7.iarg hv) ?_
    apply Zu (L' := [Zy,Zy,Zy,Zy,Zy,Zy,Zy,Zy,Zy,Zy,Zy,Zy,Zy]) 12 (H7.iarg hv)
    ·intro wS sS
     refine Zg (Z02 ?_)
     exact Z0m rfl
    refine Z14 ZK ?_
    refine Z0z ?_
    refine Z01 (Z00 (Zm ?_))
    refine Z0t rfl rfl rfl rfl (Z0h ZO) ?_
    refine Zg (Z02 ?_)
    have H12 := St.del (.tail .head) (St.del (.tail (.tail .head)) (St.del (.tail (.tail (.tail .head))) (St.del (.tail (.tail (.tail (.tail .head)))) (St.del (.tail (.tail (.tail (.tail (.tail .head))))) H7))))
    refine Z0j (i := (k, lx, vx)) (k + 1, ls2, vs) ?_ ?_ (.cons rfl .nil) ?_
    ·first | omega | (simp; omega)
    ·exact ⟨H12, ZO, by rw [Z2A l ZO]; simpa [Ma.vb] using hRs, by rw [Z2A l ZO]; have := Z3b (hRx.nonneg ZO) (d := ((l.getD k 0).toNat : Int) - 48) ZO; omega⟩
    exact (.cons rfl ZN (.cons rfl ZN .nil))
   refine Z17 H3 rfl rfl underlying47 ti30 rfl (.cons rfl ZR .nil) rfl rfl rfl (fun b5_9 w13 H13 => ?_)
   refine Z02 ?_
   refine Z0D (H13.iarg hv) ?_
   refine Z0K (L' := [Zy,Zy,Zy,Zy,Zy,Zy,Zy,Zy,Zy,Zy,Zz,Zz,Zz]) 2 ZK rfl rfl ?_
   refine Z0N rfl rfl func34 rfl rfl (.cons rfl (.cons rfl .nil)) (Z5i _ _ _ _ _ _ hRx R16.ten ZO (by simp) w13 (H13.io mem2) (H13.ibl mem1)) ?_
   rintro vp w14 ⟨_, lp, rfl, hRp, hG⟩
   have H14 := hG _ _ _ _ H13
   simp only [Zca, Zna] at H14
   refine Z02 ?_
   refine Z0D (H14.iarg hv) ?_
   refine Z0K (L' := [Zy,Zy,Zy,Zy,Zy,Zy,Zy,Zy,Zy,Zy,Zy,Zz,Zz]) 10 ZK rfl rfl ?_
   refine Z0N rfl rfl func76 rfl rfl (.cons rfl .nil) (numR _ [((l.getD k 0).toNat : Int) - 48] (U.one ZO) (by simp) w14 (H14.ibl mem1)) ?_
   rintro vn w15 ⟨_, ln, rfl, hRn, hG⟩
   have H15 := hG _ _ _ _ H14
   simp only [Zca, Zna] at H15
   refine Z02 ?_
   refine Z0D (H15.iarg hv) ?_
   refine Z0K (L' := [Zy,Zy,Zy,Zy,Zy,Zy,Zy,Zy,Zy,Zy,Zy,Zy,Zz]) 11 ZK rfl rfl ?_
   refine Z0N rfl rfl func101 rfl rfl (.cons rfl (.cons rfl .nil)) (sumR _ _ _ _ _ _ hRp hRn (by have := hRp.len (k := 16004) (by have := Z4a (hRx.nonneg ZO); omega); omega) (by have := R16.len_num (U.one ZO) hRn; simp at this; omega) w15 (H15.io mem1) (H15.io mem0)) ?_
   rintro vs w16 ⟨_, ls2, rfl, hRs, hG⟩
   have H16 := hG _ _ _ _ H15
   simp only [Zca, Zna] at H16
   refine Z02 ?_
   refine Z0D (H16.iarg hv) ?_
   apply Zu (L' := [Zy,Zy,Zy,Zy,Zy,Zy,Zy,Zy,Zy,Zy,Zy,Zy,Zy]) 12 (H16.iarg hv)
   ·intro wS sS
    refine Zg (Z02 ?_)
    exact Z0m rfl
   refine Z14 ZK ?_
   refine Z0z ?_
   refine Z01 (Z00 (Zm ?_))
   refine Z0t rfl rfl rfl rfl (Z0h ZO) ?_
   refine Zg (Z02 ?_)
   have H21 := St.del (.tail .head) (St.del (.tail (.tail .head)) (St.del (.tail (.tail (.tail .head))) (St.del (.tail (.tail (.tail (.tail .head)))) (St.del (.tail (.tail (.tail (.tail (.tail .head))))) H16))))
   refine Z0j (i := (k, lx, vx)) (k + 1, ls2, vs) ?_ ?_ (.cons rfl .nil) ?_
   ·first | omega | (simp; omega)
   ·exact ⟨H21, ZO, by rw [Z2A l ZO]; simpa [Ma.vb] using hRs, by rw [Z2A l ZO]; have := Z3b (hRx.nonneg ZO) (d := ((l.getD k 0).toNat : Int) - 48) ZO; omega⟩
   exact (.cons rfl ZN (.cons rfl ZN .nil))
  refine Z17 H2 rfl rfl underlying47 ti30 rfl (.cons rfl ZR .nil) rfl rfl rfl (fun b5_9 w22 H22 => ?_)
  refine Z02 ?_
  refine Z0D (H22.iarg hv) ?_
  refine Z0K (L' := [Zy,Zy,Zz,Zy,Zy,Zy,Zy,Zy,Zy,Zy,Zz,Zz,Zz]) 1 ZK rfl rfl ?_
  refine Z17 H22 rfl rfl underlying64 ti3 rfl (.cons rfl ZR .nil) rfl rfl rfl (fun b5_1 w23 H23 => ?_)
  refine Z02 ?_
  refine Z0D (H23.iarg hv) ?_
  refine Z0K (L' := [Zy,Zy,Zy,Zy,Zy,Zy,Zy,Zy,Zy,Zy,Zz,Zz,Zz]) 2 ZK rfl rfl ?_
  refine Z0N rfl rfl func34 rfl rfl (.cons rfl (.cons rfl .nil)) (Z5i _ _ _ _ _ _ hRx R16.ten ZO (by simp) w23 (H23.io mem2) (H23.ibl mem0)) ?_
  rintro vp w24 ⟨_, lp, rfl, hRp, hG⟩
  have H24 := hG _ _ _ _ H23
  simp only [Zca, Zna] at H24
  refine Z02 ?_
  refine Z0D (H24.iarg hv) ?_
  refine Z0K (L' := [Zy,Zy,Zy,Zy,Zy,Zy,Zy,Zy,Zy,Zy,Zy,Zz,Zz]) 10 ZK rfl rfl ?_
  refine Z0N rfl rfl func76 rfl rfl (.cons rfl .nil) (numR _ [((l.getD k 0).toNat : Int) - 48] (U.one ZO) (by simp) w24 (H24.ibl mem2)) ?_
  rintro vn w25 ⟨_, ln, rfl, hRn, hG⟩
  have H25 := hG _ _ _ _ H24
  simp only [Zca, Zna] at H25
  refine Z02 ?_
  refine Z0D (H25.iarg hv) ?_
  refine Z0K (L' := [Zy,Zy,Zy,Zy,Zy,Zy,Zy,Zy,Zy,Zy,Zy,Zy,Zz]) 11 ZK rfl rfl ?_
  refine Z0N rfl rfl func101 rfl rfl (.cons rfl (.cons rfl .nil)) (sumR _ _ _ _ _ _ hRp hRn (by have := hRp.len (k := 16004) (by have := Z4a (hRx.nonneg ZO); omega); omega) (by have := R16.len_num (U.one ZO) hRn; simp at this; omega) w25 (H25.io mem1) (H25.io mem0)) ?_
  rintro vs w26 ⟨_, ls2, rfl, hRs, hG⟩
  have H26 := hG _ _ _ _ H25
  simp only [Zca, Zna] at H26
  refine Z02 ?_
  refine Z0D (H26.iarg hv) ?_
  apply Zu (L' := [Zy,Zy,Zy,Zy,Zy,Zy,Zy,Zy,Zy,Zy,Zy,Zy,Zy]) 12 (H26.iarg hv)
  ·intro wS sS
   refine Zg (Z02 ?_)
   exact Z0m rfl
  refine Z14 ZK ?_
  refine Z0z ?_
  refine Z01 ?_
  refine Zk [0, 3, 4] ?_
  refine Z00 (Zm ?_)
  refine Z0t rfl rfl rfl rfl (Z0h ZO) ?_
  refine Zg (Z02 ?_)
  have H31 := St.del (.tail .head) (St.del (.tail (.tail .head)) (St.del (.tail (.tail (.tail .head))) (St.del (.tail (.tail (.tail (.tail .head)))) (St.del (.tail (.tail (.tail (.tail (.tail .head))))) H26))))
  refine Z0j (i := (k, lx, vx)) (k + 1, ls2, vs) ?_ ?_ (.cons rfl .nil) ?_
  ·first | omega | (simp; omega)
  ·exact ⟨H31, ZO, by rw [Z2A l ZO]; simpa [Ma.vb] using hRs, by rw [Z2A l ZO]; have := Z3b (hRx.nonneg ZO) (d := ((l.getD k 0).toNat : Int) - 48) ZO; omega⟩
  exact (.cons rfl ZN (.cons rfl ZN .nil))
 refine Z0y ?_
 refine Z04 ?_
 refine Z04 ?_
 refine Z0d ?_
 refine Z01 (Z03 (Z00 (Zm (Zg (Z02 (Z01 ?_))))))
 refine Z0f ?_
 refine Z0l results80 rfl ?_
 refine ⟨_, rfl, ?_⟩
 obtain rfl : k = l.length := by omega
 rw [List.take_length] at hRx
 exact ⟨_, _, rfl, hRx, H1.grows⟩
theorem Z1k {l : List Int} {n : Int} (h : Ma.Cn 18446744073709551616 l n) {k : Nat} (hb : Ma.blen n ≤ k) : 64 * l.length ≤ k + 64 := by
 rcases Nat.eq_zero_or_pos l.length with h0 | h0
 ·omega
 have := Ma.blen_top (s := 64) h.dg h.tr h0
 rw [show ((2 : Int) ^ 64) = 18446744073709551616 from rfl, h.val] at this
 have := Ma.blen_nonneg (l.getD (l.length - 1) 0)
 omega
theorem one_word {ls : List Int} {n : Int} (h : Ma.Cn 18446744073709551616 ls n) (hn : n < 18446744073709551616) : (ls ++ [0]).getD 0 0 = n := by
 have hv := h.val
 cases ls with
 | nil => simpa [Ma.vb] using hv
 | cons x r =>
  have h1 := Ma.vb_nonneg (show (0 : Int) < 18446744073709551616 by omega) (l := r) (fun y hy => h.dg y (.tail _ hy))
  have h2 := h.dg x (.head _)
  simp only [Ma.vb] at hv
  show x = n
  omega
theorem pv_drop {l : L8} {z : Nat} (hz : z ≤ l.length) (h : ∀ j, j < z → l.getD j 0 = 48) : pv (l.drop z) = pv l := by
 have h1 := Z3M l z hz (l.length - z) ZO
 have h2 := Z3e (l.take z) (fun j hj => by rw [List.length_take] at hj; have := h j ZO; simpa [List.getD, List.getElem?_take, show j < z by omega] using this)
 rw [h2, show z + (l.length - z) = l.length from by omega, List.take_length, List.take_of_length_le (by rw [List.length_drop]; omega)] at h1
 omega
theorem Z1S.unique {t : L8} {ng ng' : Bool} {wd x p e wd' x' p' e' : Int} {W F W' F' : L8} (h : Z1S t ng wd W F x p e) (k : Z1S t ng' wd' W' F' x' p' e') : ng = ng' ∧ wd = wd' ∧ W = W' ∧ F = F' ∧ x = x' ∧ p = p' ∧ e = e' := by
 cases h with
 | long h =>
  cases k with
  | long _ => exact ⟨rfl, rfl, rfl, rfl, rfl, rfl, rfl⟩
  | form h2 _ => omega
  | ok h2 _ => omega
 | form h hc =>
  cases k with
  | long _ => omega
  | form _ hc2 => obtain ⟨_, _, _, _, _, rfl, _⟩ := hc.unique hc2; exact ⟨rfl, rfl, rfl, rfl, rfl, rfl, rfl⟩
  | ok _ hc2 => obtain ⟨_, _, _, _, _, _, h⟩ := hc.unique hc2; cases h
 | ok h hc =>
  cases k with
  | long _ => omega
  | form _ hc2 => obtain ⟨_, _, _, _, _, _, h⟩ := hc.unique hc2; cases h
  | ok _ hc2 => obtain ⟨rfl, rfl, rfl, rfl, rfl, _, _⟩ := hc.unique hc2; exact ⟨rfl, rfl, rfl, rfl, rfl, rfl, rfl⟩
theorem Z1h.unique {t : L8} {ng ng' more more' : Bool} {wd man x p e wd' man' x' p' e' : Int} (h : Z1h t ng wd man x more p e) (k : Z1h t ng' wd' man' x' more' p' e') : ng = ng' ∧ wd = wd' ∧ man = man' ∧ x = x' ∧ more = more' ∧ p = p' ∧ e = e' := by
 cases h with
 | err hr he =>
  cases k with
  | err hr2 _ => obtain ⟨_, _, _, _, _, rfl, rfl⟩ := hr.unique hr2; exact ⟨rfl, rfl, rfl, rfl, rfl, rfl, rfl⟩
  | nil hr2 _ => obtain ⟨_, _, _, _, _, _, h⟩ := hr.unique hr2; exact absurd h he
  | num hr2 _ _ => obtain ⟨_, _, _, _, _, _, h⟩ := hr.unique hr2; exact absurd h he
 | nil hr hn =>
  cases k with
  | err hr2 he => obtain ⟨_, _, _, _, _, _, h⟩ := hr2.unique hr; exact absurd h he
  | nil hr2 _ => obtain ⟨rfl, rfl, _⟩ := hr.unique hr2; exact ⟨rfl, rfl, rfl, rfl, rfl, rfl, rfl⟩
  | num hr2 hne _ =>
   obtain ⟨rfl, rfl, rfl, rfl, _⟩ := hr.unique hr2
   rcases hn with h | h
   ·exact absurd rfl h
   exact absurd h hne
 | num hr hne hn =>
  cases k with
  | err hr2 he => obtain ⟨_, _, _, _, _, _, h⟩ := hr2.unique hr; exact absurd h he
  | nil hr2 h2 =>
   obtain ⟨rfl, rfl, rfl, rfl, _⟩ := hr.unique hr2
   rcases h2 with h | h
   ·exact absurd rfl h
   exact absurd h hne
  | num hr2 _ hn2 => obtain ⟨rfl, _, rfl, rfl, rfl, _⟩ := hr.unique hr2; subst hn hn2; exact ⟨rfl, rfl, rfl, rfl, rfl, rfl, rfl⟩
theorem RC.read {t : L8} {ng en : Bool} {wd : Int} {W F E : L8} (h : RC t ng wd W F en E true) (hl : t.length ≤ 1024) : ∃ ng', Z1S t ng' wd W F (expS en E) 0 0 ∧ ng = decide (ng' = true ∧ ¬ wd = 2) := by
 obtain ⟨ng', wd', W', F', x, a, hc, hp⟩ := h.cut
 obtain ⟨rfl, rfl, rfl, hng, rfl⟩ := hp rfl
 exact ⟨ng', .ok hl hc, hng⟩
theorem RC.elen {t : L8} {ng en ok : Bool} {wd : Int} {W F E : L8} (h : RC t ng wd W F en E ok) : E.length ≤ t.length := by
 have hF : ∀ {a b c : L8}, Fs a b c → c.length ≤ a.length := fun h => by
  cases h with
  | no _ => exact Nat.le_refl _
  | yes _ _ => simp only [List.length_drop]; omega
 cases h with
 | exp eb _ hf _ _ _ eE =>
  have h1 := hF hf
  subst eE eb
  simp only [List.length_take, List.length_drop] at h1 ⊢
  omega
 | _ => simp
theorem RC.digs {t : L8} {ng en ok : Bool} {wd : Int} {W F E : L8} (h : RC t ng wd W F en E ok) : ∀ x ∈ E, isD x := by
 cases h with
 | @exp b F R E eb hw hf hz hr he eE =>
  intro x hx
  obtain ⟨j, hj, rfl⟩ := List.getElem_of_mem hx
  rw [List.length_take] at hj
  have := Z2p E j ZO
  have hj2 : j < E.length := by omega
  simpa [List.getD, hj2] using this
 | _ => intro x hx; cases hx
theorem value4 (v : Value) (l : L8) (hd : ∀ j, j < l.length → isD (l.getD j 0)) (h1 : 1 ≤ l.length) (h19 : l.length ≤ 19) (w : World) (hv : IB w v l) :
  Z0g P 70 [v] w fun r w' => r = .tuple #[.int .u64 (pv l), .int .i64 0] ∧ Grow w w' [] := by
 refine Z0o func70 rfl ntmps70 rfl ?_
 have H0 := St.start w
 have hrun : run (l.drop 0) = l.length := by rw [List.drop_zero]; exact Z4j l l.length hd (Nat.le_refl _) (fun h => absurd h ZO)
 have hpb := Z1i l.length l rfl (Z44 hd)
 have hp19 : (10 : Int) ^ l.length ≤ 10 ^ 19 := by
  have : (10 : Nat) ^ l.length ≤ 10 ^ 19 := Nat.pow_le_pow_right ZO ZO
  exact_mod_cast this
 rw [ten19] at hp19
 refine Z03 (Z00 (Zg (Zg (Z02 (Z01 (Z03 (Z03 (Z00 (Zm ?_)))))))))
 refine Z0I rfl rfl underlying26 rfl (by first | exact H0.iarg hv | exact H0.iarg hvb | assumption) ?_
 refine Ze ?_
 refine Zm ?_
 apply l_or 5 [0] rfl rfl (.cons rfl (.cons rfl .nil)) rfl rfl (fun _ => rfl) rfl rfl rfl
 ·intro hg1_4
  refine Zm ?_
  refine Zp func134 (run_ref04 v l ZO 0 ZO w (H0.iarg hv)) ?_
  refine Zm ?_
  refine Z0I rfl rfl underlying26 rfl (by first | exact H0.iarg hv | exact H0.iarg hvb | assumption) ?_
  refine Zl ?_
  refine Z02 ?_
  exact Z0n rfl (.cons rfl (ZF hg1_4) (.cons rfl rfl .nil))
 refine Z02 (Z01 ?_)
 (first | refine Z08 rfl ?_ ?_ | refine Z05 rfl ?_ ?_) <;> intro hc0
 ·omega
 refine Z09 (Z01 ?_)
 refine Zk [0] ?_
 refine Z03 (Z0c ?_)
 refine Z0v (ι := Value × Nat) (fun (z0 : Value × Nat) => match z0 with | ⟨vb, z⟩ => l.length - z) (fun (z0 : Value × Nat) (w' : World) => match z0 with | ⟨vb, z⟩ => St w w.heap.size Z0B ([]) w' ∧ IV w vb (bys (l.drop z)) ∧ z ≤ l.length ∧ ∀ j, j < z → l.getD j 0 = 48) (fun (z0 : Value × Nat) => match z0 with | ⟨vb, z⟩ => [(0, vb)]) [] (v, 0) ?_ .nil ?_ ?_
 ·exact ⟨H0, hv, ZO, fun j hj => by omega⟩
 ·exact (.cons rfl ZN .nil)
 rintro ⟨vb, z⟩ w1 ⟨H1, hvb, hz, hzs⟩
 show RunC P _ _ _ (_ :: _) _
 have hlz : (l.drop z).length = l.length - z := List.length_drop
 refine Z03 (Z03 (Z00 (Zm ?_)))
 refine Z0I rfl rfl underlying26 rfl (by first | exact H1.iarg hv | exact H1.iarg hvb | assumption) ?_
 refine Zw ?_
 refine Zm ?_
 apply Z13 4 [0] rfl rfl (.cons rfl (.cons rfl .nil)) rfl rfl (fun _ => rfl) rfl rfl rfl
 ·intro hg3_4
  refine Zm ?_
  refine Z0V (j := 0) rfl rfl rfl rfl underlying26 tz5 underlying5 rfl rfl (by first | exact H1.iarg hv | exact H1.iarg hvb | assumption) rfl ZO ZI (fun hb3_5 => ?_)
  refine Ze ?_
  refine Z02 ?_
  exact Z0n rfl (.cons rfl (ZT hg3_4) (.cons rfl rfl .nil))
 refine Z02 (Z01 ?_)
 (first | refine Z08 rfl ?_ ?_ | refine Z05 rfl ?_ ?_) <;> intro hc1
 ·refine Z09 (Z01 (Z0c (Z00 (Zm ?_))))
  refine Z2O (l := 1) (h := (l.drop z).length) rfl rfl underlying26 tz5 rfl rfl rfl rfl hvb ZD ZD (.inl rfl) (by simp) ZO ZI (fun v4_1 h4_1 ho4_1 => ?_)
  rw [Z1G, List.take_length, List.drop_drop] at h4_1
  refine Zg (Z02 ?_)
  refine Z0z ?_
  refine Z0j (i := (vb, z)) (v4_1, z + 1) ?_ ?_ .nil ?_
  ·first | omega | (simp; omega)
  ·refine ⟨H1, h4_1, ZO, fun j hj => ?_⟩
   rcases Nat.lt_or_ge j z with h | h
   ·exact hzs j h
   obtain rfl : j = z := by omega
   have := hc1.2
   rw [Z0G] at this
   exact Z1R.1 this
  exact (.cons rfl ZN .nil)
 refine Z0y ?_
 refine Z04 ?_
 refine Z04 ?_
 refine Z0d ?_
 refine Z01 ?_
 refine Zk [0] ?_
 refine Z03 (Z03 (Z00 (Zm ?_)))
 refine Z0I rfl rfl underlying26 rfl (by first | exact H1.iarg hv | exact H1.iarg hvb | assumption) ?_
 refine Zw ?_
 refine Z02 (Z01 ?_)
 (first | refine Z08 rfl ?_ ?_ | refine Z05 rfl ?_ ?_) <;> intro hc2
 ·simp only [List.length_drop] at hc2
  omega
 refine Z09 (Z01 (Z03 (Z00 (Zm ?_))))
 refine Zc func80 (Z5P vb (l.drop z) (Z3f hd z) (by rw [List.length_drop]; omega) w1 (H1.iarg hvb)) ?_
 rintro _ w2 ⟨vn, ln, rfl, hRn, hG⟩
 have H2 := hG _ _ _ _ H1
 simp only [Zca, Zna] at H2
 rw [pv_drop hz hzs] at hRn
 have hb64 : Ma.blen (pv l) ≤ (64 : Nat) := (Ma.blen_le_iff hpb.1 64).2 (by rw [show (2 : Int) ^ 64 = 18446744073709551616 from by decide]; omega)
 refine Zg (Z02 (Z01 ?_))
 refine Zk [4] ?_
 refine Z03 (Z03 (Z00 (Zm ?_)))
 refine Z0J rfl rfl func135 rfl rfl (.cons rfl .nil) (bitsR _ _ _ hRn (by have := hRn.len (k := 64) hb64; omega) w2 (H2.io mem0)) ?_
 refine Zw ?_
 refine Z02 (Z01 ?_)
 (first | refine Z08 rfl ?_ ?_ | refine Z05 rfl ?_ ?_) <;> intro hc3
 ·omega
 refine Z09 (Z01 (Z03 (Z00 (Zm ?_))))
 refine Z0N rfl rfl func136 rfl rfl (.cons rfl .nil) (wordsR _ _ _ hRn (by have := hRn.len (k := 64) hb64; omega) w2 (H2.io mem0)) ?_
 rintro _ w3 ⟨vw, ls, rfl, hcn, hG⟩
 have H3 := hG _ _ _ _ H2
 simp only [Zca, Zna] at H3
 have hUs : U (ls ++ [0]) := fun x hx => (List.mem_append.1 hx).elim (fun h => by have := hcn.dg x h; omega) (fun h => by rw [List.mem_singleton.1 h]; omega)
 have hll := Z1k hcn hb64
 have hlsn : (ls ++ [0]).length = ls.length + 1 := by simp
 refine Z17 H3 rfl rfl underlying47 ti30 rfl (.cons rfl ZR .nil) rfl rfl rfl (fun b10_2 w4 H4 => ?_)
 refine Z2d H4 rfl rfl underlying47 ti30 rfl rfl rfl rfl (by first | (simp [Value.oneCell']; done) | (intro u hu; rw [List.mem_singleton.1 hu]; assumption)) (by first | (simp; done) | (simp; omega)) (by first | (simp; done) | (simp; omega)) (fun v10_3 w5 H5 => ?_)
 rw [ints_snoc] at H5
 refine Z0O (j := 0) rfl rfl rfl rfl underlying47 tz30 underlying30 rfl rfl (by first | exact H5.io mem0 | exact H5.io mem1 | exact H5.iarg hv | exact H5.iarg hvb | assumption) ZA rfl ZO ZI (fun hb10_4 => ?_)
 refine Zg (Zg (Z02 (Z01 ?_)))
 refine Zk [2, 3] ?_
 refine Z0f ?_
 refine Z0x results70 rfl rfl ?_
 refine ⟨_, rfl, ?_⟩
 have H7 := St.del .head (St.del (.tail .head) H5)
 exact ⟨by rw [one_word hcn ZO], H7.grows⟩
theorem scan8 (v : Value) (t : L8) (hL : t.length ≤ 1099511627776) (w : World) (hv : IB w v t) :
  Z0g P 27 [v] w fun r w' => ∃ ng wd man x more p e, r = .tuple #[.agg #[.bool ng, .int .i64 wd, .int .u64 man, .int .i64 x, .bool more], .int .i64 p, .int .i64 e] ∧ Z1h t ng wd man x more p e ∧ Grow w w' [] := by
 refine Z0o func27 rfl ntmps27 rfl ?_
 have H0 := St.start w
 refine Z03 (Z00 ?_)
 refine Z0H H0 ta40 rfl rfl (fun b0_0 w1 H1 => ?_)
 refine Zg (Zg (Z02 (Z01 (Z03 (Z00 (Zm ?_))))))
 refine Zc func68 (check8 v t hL w1 (H1.iarg hv)) ?_
 rintro _ w2 ⟨ng, wd, W, F, en, E, p, e, rfl, hR, hG⟩
 have H2 := hG _ _ _ _ H1
 simp only [Zca, Zna] at H2
 refine Zm ?_
 refine Zx (Zx (Zx ?_))
 refine Z0H H2 Z5L rfl rfl (fun b1_6 w3 H3 => ?_)
 refine Z0a H3 .head (.zero (.zero (.zero (.zero (.zero (.zero .nil)))))) rfl Z1q rfl rfl ZC (fun w4 H4 => ?_)
 refine Zg (Zg (Z02 (Z01 (Z03 (Z03 (Z00 (Zm ?_)))))))
 refine Zo ?_
 refine Z02 (Z01 ?_)
 refine Zk [2, 5, 6, 7, 20] ?_
 (first | refine Z08 rfl ?_ ?_ | refine Z05 rfl ?_ ?_) <;> intro hc0
 ·refine Z03 (Z00 ?_)
  refine Z0Q rfl rfl pl40 ta40 .nil ?_
  refine Zm (Zm ?_)
  refine Z0a H4 (.tail .head) (.zero (.zero (.zero (.zero (.zero .nil))))) rfl tz40 rfl rfl ZC (fun w5 H5 => ?_)
  refine Zg (Zg (Z02 (Z01 ?_)))
  refine Z0f ?_
  refine Z06 ?_
  refine Z0p results27 (.cell rfl (Z0k H5 mem1 underlying40 rfl tz40 (.take (.take (.take (.take (.take .nil)))))) (.tmp rfl (.tmp rfl .nil))) rfl ?_
  refine ⟨_, rfl, ?_⟩
  have H7 := St.del .head (St.del (.tail .head) H5)
  have hrr : Z1S t false 0 [] [] 0 p e := by
   cases hR with
   | long h => exact .long h
   | form h => exact h
   | ok _ _ => exact absurd rfl hc0
  exact ⟨_, _, _, _, _, _, _, rfl, .err hrr hc0, H7.grows⟩
 refine Z09 (Z01 (Z03 (Z00 ?_)))
 have he0 : e = 0 := by omega
 obtain ⟨hp0, hRC⟩ : p = 0 ∧ RC t ng wd W F en E true := by
  cases hR with
  | long _ => cases he0
  | form _ => cases he0
  | ok _ hc => exact ⟨rfl, hc⟩
 have hl1024 : t.length ≤ 1024 := by
  cases hR with
  | long _ => cases he0
  | form _ => cases he0
  | ok h _ => exact h
 obtain ⟨ng', hRd, hng⟩ := hRC.read hl1024
 obtain ⟨hdg, hWl, hFl, hx1, hx2, _, _⟩ := hRd.facts
 have hEd := hRC.digs
 have hEl : E.length ≤ 1099511627776 := by
  have := hRC.elen
  omega
 obtain ⟨L, hLe⟩ : ∃ L, L = Z0P (W ++ F) := ⟨_, rfl⟩
 have hLl := Z3g (W ++ F)
 rw [← hLe, List.length_append] at hLl
 have hdL : ∀ j, j < L.length → isD (L.getD j 0) := fun j hj => hdg _ (Z2k (hLe ▸ Z2K hj))
 refine Z0b fo143_0 rfl rfl rfl ?_
 refine Z07 H4 mem0 rfl rfl underlying4 rfl rfl rfl ?_
 refine Z0b Z47 rfl rfl rfl ?_
 refine Z07 H4 mem0 rfl rfl underlying3 rfl rfl rfl ?_
 refine Z0Q rfl rfl pl40 ta40 (.one rfl rfl ZR .zero (.one rfl rfl ZR (.succ .zero) .nil)) ?_
 refine Z0H H4 ta40 rfl rfl (fun b4_5 w8 H8 => ?_)
 refine Z0a H8 .head (.zero (.zero (.zero (.zero (.zero .nil))))) rfl tz40 rfl rfl ZC (fun w9 H9 => ?_)
 refine Z02 (Z01 ?_)
 refine Zk [2, 5, 8] ?_
 refine Z03 (Z00 ?_)
 refine Z0e H9 mem1 rfl rfl underlying143 rfl Z1q rfl (.take (.take (.take (.take (.take (.take .nil)))))) ?_
 refine Zc func69 (all8R ng wd W F en E ZO ZO w9) ?_
 rintro _ w10 ⟨rfl, hG⟩
 have H10 := hG _ _ _ _ H9
 simp only [Zca, Zna] at H10
 refine Z0q (s := 30) (v' := str L) rfl (by rw [hLe]) ?_
 refine Zg (Z02 (Z01 (Z03 (Z03 (Z00 (Z0b Z47 rfl rfl rfl ?_))))))
 refine Z07 H10 mem1 rfl rfl underlying3 rfl rfl rfl ?_
 refine Zo ?_
 refine Zm ?_
 apply l_or 2 [2, 5, 8, 9] rfl rfl (.cons rfl (.cons rfl (.cons rfl (.cons rfl (.cons rfl .nil))))) rfl rfl (fun _ => rfl) rfl rfl rfl
 ·intro hg6_4
  refine Zm ?_
  refine Z2R rfl rfl rfl rfl ?_
  refine Z02 ?_
  exact Z0n rfl (.cons rfl (ZF hg6_4) (.cons rfl rfl (.cons rfl rfl (.cons rfl rfl (.cons rfl rfl .nil)))))
 refine Z02 (Z01 ?_)
 (first | refine Z08 rfl ?_ ?_ | refine Z05 rfl ?_ ?_) <;> intro hc1
 ·refine Z03 (Z00 ?_)
  refine Z0e H10 mem0 rfl rfl underlying40 rfl tz40 rfl (.take (.take (.take (.take (.take .nil))))) ?_
  refine Z0a H10 (.tail (.tail .head)) (.zero (.zero (.zero (.zero (.zero .nil))))) rfl tz40 rfl rfl ZC (fun w11 H11 => ?_)
  refine Zg (Zg (Z02 (Z01 ?_)))
  refine Zk [2, 3, 4] ?_
  refine Z0f ?_
  refine Z06 ?_
  refine Z0p results27 (.cell rfl (Z0k H11 mem2 underlying40 rfl tz40 (.take (.take (.take (.take (.take .nil)))))) (.tmp rfl (.tmp rfl .nil))) rfl ?_
  refine ⟨_, rfl, ?_⟩
  have H14 := St.del .head (St.del (.tail .head) (St.del (.tail (.tail .head)) H11))
  subst hng
  exact ⟨_, _, _, _, _, _, _, rfl, .nil hRd (hc1.imp id fun h => by rw [← hLe]; exact h), H14.grows⟩
 refine Z09 (Z01 (Z03 (Z00 ?_)))
 have hwd : wd = 0 := Classical.not_not.1 (fun h => hc1 (.inl h))
 have hL0 : 0 < L.length := Z1B (fun h => hc1 (.inr h))
 refine Zg (Z02 (Z01 ?_))
 refine Z0R (ι := Nat) (fun (n : Nat) (w' : World) => St w w.heap.size Z0B ([As.blk b4_5 40 [.bool ng, .int .i64 wd, .int .u64 0, .int .i64 0, .bool false], As.blk b1_6 143 [.bool ng, .int .i64 wd, str W, str F, .bool en, str E], As.blk b0_0 40 [.bool false, .int .i64 0, .int .u64 0, .int .i64 0, .bool false]]) w' ∧ n = L.length - 19) (fun (n : Nat) => [(10, .int .i64 (n : Int))]) [2, 5, 8, 9] (.cons rfl (.cons rfl (.cons rfl (.cons rfl .nil)))) ?_ ?_
 ·refine Z03 (Z00 (Zm ?_))
  refine Z0X rfl rfl underlying9 rfl ?_
  refine Zw ?_
  refine Z02 (Z01 ?_)
  (first | refine Z08 rfl ?_ ?_ | refine Z05 rfl ?_ ?_) <;> intro hc2
  ·refine Z00 (Zm ?_)
   refine Z0X rfl rfl underlying9 rfl ?_
   refine Z0F rfl rfl rfl rfl (Z0h ZO) ?_
   refine Zg (Z02 ?_)
   refine Z0s (L.length - 19) ?_ (.cons rfl (.cons rfl (.cons rfl (.cons rfl .nil)))) ?_
   ·exact ⟨H10, rfl⟩
   exact (.cons rfl ZN .nil)
  refine Z09 ?_
  refine Z0s (0) ?_ (.cons rfl (.cons rfl (.cons rfl (.cons rfl .nil)))) ?_
  ·exact ⟨H10, ZO⟩
  exact (.cons rfl ZN .nil)
 rintro n w15 ⟨H15, hn⟩
 show RunC P _ _ _ (_ :: _) _
 refine Z03 (Z00 (Zm (Zm ?_)))
 refine Z0X rfl rfl underlying9 rfl ?_
 refine Zm ?_
 refine Z0F rfl rfl rfl rfl (Z0h ZO) ?_
 refine Z1K (l := 0) (h := L.length - n) rfl rfl underlying9 rfl rfl rfl ZD ZD ZO ZI ?_
 refine Z0q (s := 50) (v' := str (L.take (L.length - n))) rfl (by rw [List.drop_zero]) ?_
 refine Zg (Z02 (Z01 ?_))
 refine Zk [2, 5, 8, 9, 10, 11] ?_
 refine Z03 (Z00 (Zm ?_))
 refine Z3V H15 rfl rfl underlying9 underlying26 underlying5 rfl (fun v12_1 w16 H16 => ?_)
 refine Z0N rfl rfl func70 rfl rfl (.cons rfl .nil) (value4 _ (L.take (L.length - n)) (Z2G hdL _) (by rw [List.length_take]; omega) (by rw [List.length_take]; omega) w16 (H16.ii mem0)) ?_
 rintro _ w17 ⟨rfl, hG⟩
 have H17 := hG _ _ _ _ H16
 simp only [Zca, Zna] at H17
 refine Zm ?_
 refine Zx (Zx (Z0b Z3B rfl rfl rfl ?_))
 refine Z0w H17 (.tail .head) (by repeat (first | exact .zero | apply Z1g.succ)) rfl tz30 rfl rfl ZR (fun w18 H18 => ?_)
 refine Z02 (Z01 (Z03 ?_))
 have H19 := H18.drewn
 refine Z2t (n := 10) [Zz,Zz,Zz,Zz,Zz,Zz,Zz,Zz,Zz,Zz] (fun wS => (As.blk b1_6 143 [.bool ng, .int .i64 wd, str W, str F, .bool en, str E]).ok wS) ZK rfl rfl ?_
 apply Zu (L' := [Zy,Zz,Zz,Zz,Zz,Zz,Zz,Zz,Zz,Zz]) 0 (H19.ok mem2)
 ·intro wS sS
  refine Z0e (Z1x sS) mem0 rfl rfl underlying143 rfl Z1q rfl (.take (.take (.take (.take (.take (.take .nil)))))) ?_
  refine Z02 ?_
  exact Z0m rfl
 apply Zu (L' := [Zy,Zz,Zy,Zz,Zz,Zz,Zz,Zz,Zz,Zz]) 2 (H19.ok mem2)
 ·intro wS sS
  refine Z0b Z4D rfl rfl rfl (Z02 ?_)
  exact Z0m rfl
 apply Zu (L' := [Zy,Zz,Zy,Zy,Zz,Zz,Zz,Zz,Zz,Zz]) 3 (H19.ok mem2)
 ·intro wS sS
  refine Z07 (Z1x sS) mem0 rfl rfl underlying9 rfl rfl rfl ?_
  refine Z02 ?_
  exact Z0m rfl
 apply Zu (L' := [Zy,Zz,Zy,Zy,Zz,Zz,Zy,Zz,Zz,Zz]) 6 (H19.ok mem2)
 ·intro wS sS
  refine Zm (Z02 ?_)
  exact Z0m rfl
 refine Z3T (L' := [Zy,Zy,Zy,Zy,Zz,Zz,Zy,Zz,Zz,Zz]) (L'' := [Zy,Zz,Zy,Zy,Zy,Zz,Zy,Zz,Zz,Zz]) 1 4 ZK rfl rfl rfl rfl ?_ ?_
 ·refine Zc func71 (expo8 ng wd W F en E hEd hEl w18.drew) ?_
  rintro _ w20 ⟨rfl, hG⟩
  have H20 := hG _ _ _ _ H19
  simp only [Zca, Zna] at H20
  refine Z02 ?_
  refine Z0D (H20.ok mem2) ?_
  refine Z0K (L' := [Zy,Zy,Zy,Zy,Zy,Zz,Zy,Zz,Zz,Zz]) 4 ZK rfl rfl ?_
  refine Z0X rfl rfl underlying9 rfl ?_
  refine Z02 ?_
  refine Z0D (H20.ok mem2) ?_
  apply Zu (L' := [Zy,Zy,Zy,Zy,Zy,Zy,Zy,Zz,Zz,Zz]) 5 (H20.ok mem2)
  ·intro wS sS
   refine Z0F rfl rfl rfl rfl (Z0h ZO) ?_
   refine Z02 ?_
   exact Z0m rfl
  apply Zu (L' := [Zy,Zy,Zy,Zy,Zy,Zy,Zy,Zy,Zz,Zz]) 7 (H20.ok mem2)
  ·intro wS sS
   refine Z0t rfl rfl rfl rfl (Z0h ZO) ?_
   refine Z02 ?_
   exact Z0m rfl
  apply Zu (L' := [Zy,Zy,Zy,Zy,Zy,Zy,Zy,Zy,Zy,Zz]) 8 (H20.ok mem2)
  ·intro wS sS
   refine Z0b Z23 rfl rfl rfl (Z02 ?_)
   exact Z0m rfl
  refine Z0K (L' := [Zy,Zy,Zy,Zy,Zy,Zy,Zy,Zy,Zy,Zy]) 9 ZK rfl rfl ?_
  refine Z0w H20 (.tail .head) (by repeat (first | exact .zero | apply Z1g.succ)) rfl tz3 rfl rfl ZR (fun w21 H21 => ?_)
  refine Z02 ?_
  refine Z0D (H21.ok mem2) ?_
  refine Z14 ZK ?_
  refine Z01 (Z03 (Z03 (Z00 ?_)))
  have H22 := St.del .head H21
  refine Zm ?_
  refine Z0X rfl rfl underlying9 rfl ?_
  have htk : (L.take (L.length - n)).length = L.length - n := by rw [List.length_take]; omega
  refine Z0q (s := 68) (v' := .int .i64 ((L.length - n + 0 : Nat) : Int)) rfl (by rw [htk]; rfl) ?_
  refine Zg (Z02 (Z01 ?_))
  refine Zk [2, 8, 9, 12] ?_
  refine Z0c ?_
  refine Z0v (ι := Nat × Bool) (fun (z0 : Nat × Bool) => match z0 with | ⟨k, mb⟩ => n - k) (fun (z0 : Nat × Bool) (w' : World) => match z0 with | ⟨k, mb⟩ => St w w.heap.size Z0B ([As.blk b4_5 40 [.bool ng, .int .i64 wd, .int .u64 (pv (L.take (L.length - n))), .int .i64 (expS en E - (F.length : Int) + (n : Int)), .bool mb], As.blk b1_6 143 [.bool ng, .int .i64 wd, str W, str F, .bool en, str E], As.blk b0_0 40 [.bool false, .int .i64 0, .int .u64 0, .int .i64 0, .bool false]]) w' ∧ k ≤ n ∧ mb = ((L.drop (L.length - n)).take k).any (fun c => !decide (c = 48))) (fun (z0 : Nat × Bool) => match z0 with | ⟨k, mb⟩ => [(12, .int .i64 ((L.length - n + k : Nat) : Int))]) [2, 8, 9] (0, false) ?_ (.cons rfl (.cons rfl (.cons rfl .nil))) ?_ ?_
  ·exact ⟨H22, ZO, rfl⟩
  ·exact (.cons rfl ZN .nil)
  rintro ⟨k, mb⟩ w23 ⟨H23, hk, hmb⟩
  show RunC P _ _ _ (_ :: _) _
  refine Z03 (Z03 (Z00 (Zm (Zm ?_))))
  refine Z0X rfl rfl underlying9 rfl ?_
  refine Zl ?_
  refine Z02 (Z01 ?_)
  (first | refine Z08 rfl ?_ ?_ | refine Z05 rfl ?_ ?_) <;> intro hc3
  ·refine Z09 (Z01 (Z03 (Z0c (Z00 (Z0b Z3C rfl rfl rfl ?_)))))
   refine Z07 H23 mem0 rfl rfl underlying4 rfl rfl rfl ?_
   refine Zm ?_
   refine Z0q (s := 77) (v' := .bool (decide (mb = true))) rfl (by cases mb <;> rfl) ?_
   apply l_or 4 [2, 8, 9, 12] rfl rfl (.cons rfl (.cons rfl (.cons rfl (.cons rfl (.cons rfl .nil))))) rfl rfl (fun _ => rfl) rfl rfl rfl
   ·intro hg17_3
    refine Zm (Zm ?_)
    refine Z1y (j := L.length - n + k) rfl rfl underlying9 rfl rfl ZO ZI (fun hb17_5 => ?_)
    refine Zo ?_
    refine Z02 ?_
    exact Z0n rfl (.cons rfl (ZF hg17_3) (.cons rfl rfl (.cons rfl rfl (.cons rfl rfl (.cons rfl rfl .nil)))))
   refine Z0b Z3C rfl rfl rfl ?_
   refine Z0w H23 .head (by repeat (first | exact .zero | apply Z1g.succ)) rfl tz4 rfl rfl ZR (fun w24 H24 => ?_)
   refine Z02 ?_
   refine Z0z ?_
   refine Z01 ?_
   refine Zk [2, 8, 9, 12] ?_
   refine Z00 (Zm ?_)
   refine Z0t rfl rfl rfl rfl (Z0h ZO) ?_
   refine Zg (Z02 ?_)
   refine Z0j (i := (k, mb)) (k + 1, decide (mb = true ∨ ¬ (((L.getD (L.length - n + k) 0).toNat : Int)) = 48)) ?_ ?_ (.cons rfl (.cons rfl (.cons rfl .nil))) ?_
   ·first | omega | (simp; omega)
   ·have htl : (L.drop (L.length - n)).length = n := by rw [List.length_drop]; omega
    refine ⟨H24, ZO, ?_⟩
    rw [Z52 _ _ ZO, ← hmb, Z0G]
    have e : (((L.getD (L.length - n + k) 0).toNat : Int) = 48) ↔ (L.getD (L.length - n + k) 0 = 48) := Z1R (d := 48)
    generalize L.getD (L.length - n + k) 0 = cc at e ⊢
    by_cases h : cc = 48
    ·have h2 := e.2 h
     simp [h]
    have h2 : ¬ (cc.toNat : Int) = 48 := fun h3 => h (e.1 h3)
    rw [decide_eq_true (Or.inr h2), decide_eq_false h]
    simp
   exact (.cons rfl ZN .nil)
  refine Z0y ?_
  refine Z04 ?_
  refine Z04 ?_
  refine Z0d ?_
  refine Z01 (Z03 (Z00 ?_))
  refine Z0e H23 mem0 rfl rfl underlying40 rfl tz40 rfl (.take (.take (.take (.take (.take .nil))))) ?_
  refine Z0a H23 (.tail (.tail .head)) (.zero (.zero (.zero (.zero (.zero .nil))))) rfl tz40 rfl rfl ZC (fun w25 H25 => ?_)
  refine Zg (Zg (Z02 (Z01 ?_)))
  refine Z0f ?_
  refine Z0p results27 (.cell rfl (Z0k H25 mem2 underlying40 rfl tz40 (.take (.take (.take (.take (.take .nil)))))) (.tmp rfl (.tmp rfl .nil))) rfl ?_
  refine ⟨_, rfl, ?_⟩
  have H28 := St.del .head (St.del (.tail .head) (St.del (.tail (.tail .head)) H25))
  subst hwd
  have hng2 : ng = ng' := by rw [hng]; cases ng' <;> rfl
  obtain rfl : k = n := by omega
  rw [List.take_of_length_le (by rw [List.length_drop]; omega)] at hmb
  rw [hmb, hng2, hLe]
  rw [hLe] at hn
  exact ⟨_, _, _, _, _, _, _, rfl, .num hRd (fun h => by rw [← hLe] at h; rw [h] at hL0; simp at hL0) hn, H28.grows⟩
 refine Z0X rfl rfl underlying9 rfl ?_
 refine Z02 ?_
 refine Z0D (H19.ok mem2) ?_
 refine Z0K (L' := [Zy,Zy,Zy,Zy,Zy,Zz,Zy,Zz,Zz,Zz]) 1 ZK rfl rfl ?_
 refine Zc func71 (expo8 ng wd W F en E hEd hEl w18.drew) ?_
 rintro _ w29 ⟨rfl, hG⟩
 have H29 := hG _ _ _ _ H19
 simp only [Zca, Zna] at H29
 refine Z02 ?_
 refine Z0D (H29.ok mem2) ?_
 apply Zu (L' := [Zy,Zy,Zy,Zy,Zy,Zy,Zy,Zz,Zz,Zz]) 5 (H29.ok mem2)
 ·intro wS sS
  refine Z0F rfl rfl rfl rfl (Z0h ZO) ?_
  refine Z02 ?_
  exact Z0m rfl
 apply Zu (L' := [Zy,Zy,Zy,Zy,Zy,Zy,Zy,Zy,Zz,Zz]) 7 (H29.ok mem2)
 ·intro wS sS
  refine Z0t rfl rfl rfl rfl (Z0h ZO) ?_
  refine Z02 ?_
  exact Z0m rfl
 apply Zu (L' := [Zy,Zy,Zy,Zy,Zy,Zy,Zy,Zy,Zy,Zz]) 8 (H29.ok mem2)
 ·intro wS sS
  refine Z0b Z23 rfl rfl rfl (Z02 ?_)
  exact Z0m rfl
 refine Z0K (L' := [Zy,Zy,Zy,Zy,Zy,Zy,Zy,Zy,Zy,Zy]) 9 ZK rfl rfl ?_
 refine Z0w H29 (.tail .head) (by repeat (first | exact .zero | apply Z1g.succ)) rfl tz3 rfl rfl ZR (fun w30 H30 => ?_)
 refine Z02 ?_
 refine Z0D (H30.ok mem2) ?_
 refine Z14 ZK ?_
 refine Z01 ?_
 refine Zk [2, 8, 9, 11] ?_
 refine Z03 (Z03 (Z00 ?_))
 have H31 := St.del .head H30
 refine Zm ?_
 refine Z0X rfl rfl underlying9 rfl ?_
 have htk : (L.take (L.length - n)).length = L.length - n := by rw [List.length_take]; omega
 refine Z0q (s := 68) (v' := .int .i64 ((L.length - n + 0 : Nat) : Int)) rfl (by rw [htk]; rfl) ?_
 refine Zg (Z02 (Z01 (Z0c ?_)))
 refine Z0v (ι := Nat × Bool) (fun (z0 : Nat × Bool) => match z0 with | ⟨k, mb⟩ => n - k) (fun (z0 : Nat × Bool) (w' : World) => match z0 with | ⟨k, mb⟩ => St w w.heap.size Z0B ([As.blk b4_5 40 [.bool ng, .int .i64 wd, .int .u64 (pv (L.take (L.length - n))), .int .i64 (expS en E - (F.length : Int) + (n : Int)), .bool mb], As.blk b1_6 143 [.bool ng, .int .i64 wd, str W, str F, .bool en, str E], As.blk b0_0 40 [.bool false, .int .i64 0, .int .u64 0, .int .i64 0, .bool false]]) w' ∧ k ≤ n ∧ mb = ((L.drop (L.length - n)).take k).any (fun c => !decide (c = 48))) (fun (z0 : Nat × Bool) => match z0 with | ⟨k, mb⟩ => [(12, .int .i64 ((L.length - n + k : Nat) : Int))]) [2, 8, 9] (0, false) ?_ (.cons rfl (.cons rfl (.cons rfl .nil))) ?_ ?_
 ·exact ⟨H31, ZO, rfl⟩
 ·exact (.cons rfl ZN .nil)
 rintro ⟨k, mb⟩ w32 ⟨H32, hk, hmb⟩
 show RunC P _ _ _ (_ :: _) _
 refine Z03 (Z03 (Z00 (Zm (Zm ?_))))
 refine Z0X rfl rfl underlying9 rfl ?_
 refine Zl ?_
 refine Z02 (Z01 ?_)
 (first | refine Z08 rfl ?_ ?_ | refine Z05 rfl ?_ ?_) <;> intro hc3
 ·refine Z09 (Z01 ?_)
  refine Zk [2, 8, 9, 12] ?_
  refine Z03 (Z0c (Z00 (Z0b Z3C rfl rfl rfl ?_)))
  refine Z07 H32 mem0 rfl rfl underlying4 rfl rfl rfl ?_
  refine Zm ?_
  refine Z0q (s := 77) (v' := .bool (decide (mb = true))) rfl (by cases mb <;> rfl) ?_
  apply l_or 4 [2, 8, 9, 12] rfl rfl (.cons rfl (.cons rfl (.cons rfl (.cons rfl (.cons rfl .nil))))) rfl rfl (fun _ => rfl) rfl rfl rfl
  ·intro hg17_3
   refine Zm (Zm ?_)
   refine Z1y (j := L.length - n + k) rfl rfl underlying9 rfl rfl ZO ZI (fun hb17_5 => ?_)
   refine Zo ?_
   refine Z02 ?_
   exact Z0n rfl (.cons rfl (ZF hg17_3) (.cons rfl rfl (.cons rfl rfl (.cons rfl rfl (.cons rfl rfl .nil)))))
  refine Z0b Z3C rfl rfl rfl ?_
  refine Z0w H32 .head (by repeat (first | exact .zero | apply Z1g.succ)) rfl tz4 rfl rfl ZR (fun w33 H33 => ?_)
  refine Z02 ?_
  refine Z0z ?_
  refine Z01 (Z00 (Zm ?_))
  refine Z0t rfl rfl rfl rfl (Z0h ZO) ?_
  refine Zg (Z02 ?_)
  refine Z0j (i := (k, mb)) (k + 1, decide (mb = true ∨ ¬ (((L.getD (L.length - n + k) 0).toNat : Int)) = 48)) ?_ ?_ (.cons rfl (.cons rfl (.cons rfl .nil))) ?_
  ·first | omega | (simp; omega)
  ·have htl : (L.drop (L.length - n)).length = n := by rw [List.length_drop]; omega
   refine ⟨H33, ZO, ?_⟩
   rw [Z52 _ _ ZO, ← hmb, Z0G]
   have e : (((L.getD (L.length - n + k) 0).toNat : Int) = 48) ↔ (L.getD (L.length - n + k) 0 = 48) := Z1R (d := 48)
   generalize L.getD (L.length - n + k) 0 = cc at e ⊢
   by_cases h : cc = 48
   ·have h2 := e.2 h
    simp [h]
   have h2 : ¬ (cc.toNat : Int) = 48 := fun h3 => h (e.1 h3)
   rw [decide_eq_true (Or.inr h2), decide_eq_false h]
   simp
  exact (.cons rfl ZN .nil)
 refine Z0y ?_
 refine Z04 ?_
 refine Z04 ?_
 refine Z0d ?_
 refine Z01 (Z03 (Z00 ?_))
 refine Z0e H32 mem0 rfl rfl underlying40 rfl tz40 rfl (.take (.take (.take (.take (.take .nil))))) ?_
 refine Z0a H32 (.tail (.tail .head)) (.zero (.zero (.zero (.zero (.zero .nil))))) rfl tz40 rfl rfl ZC (fun w34 H34 => ?_)
 refine Zg (Zg (Z02 (Z01 ?_)))
 refine Zk [2, 3, 4] ?_
 refine Z0f ?_
 refine Z0p results27 (.cell rfl (Z0k H34 mem2 underlying40 rfl tz40 (.take (.take (.take (.take (.take .nil)))))) (.tmp rfl (.tmp rfl .nil))) rfl ?_
 refine ⟨_, rfl, ?_⟩
 have H37 := St.del .head (St.del (.tail .head) (St.del (.tail (.tail .head)) H34))
 subst hwd
 have hng2 : ng = ng' := by rw [hng]; cases ng' <;> rfl
 obtain rfl : k = n := by omega
 rw [List.take_of_length_le (by rw [List.length_drop]; omega)] at hmb
 rw [hmb, hng2, hLe]
 rw [hLe] at hn
 exact ⟨_, _, _, _, _, _, _, rfl, .num hRd (fun h => by rw [← hLe] at h; rw [h] at hL0; simp at hL0) hn, H37.grows⟩
end Go.Proofs.YtjcbdogohjafdaaGreat.W
