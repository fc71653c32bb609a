/- the law GateExact -/
import Derived.Test.YtgfkagaacdblbaaGreatZi
set_option linter.unusedVariables false
set_option linter.unusedSimpArgs false
set_option maxRecDepth 10000
namespace Go.Proofs.YtgfkagaacdblbaaGreat.W
open Go.Vc Go.RowKit Tryz
theorem newOkR (v : Value) (vs : List Value) (ls : List (List Int)) (hvl : vs.length = ls.length) (hvb : vs.length ≤ 1099511627776) (hrg : ∀ l ∈ ls, Rg (-9223372036854775808) 9223372036854775807 l ∧ 0 ≤ l.length) (hok : okA ls) (w : World) (hv : IV w v vs) (hvs : ∀ (j : Nat) (x : Value) (l : List Int), vs[j]? = some x → ls[j]? = some l → IV w x (ints .i64 l)) :
  Z0f P 6 [v] w fun r w' => ∃ (b : Nat) (Z : GDm), r = .tuple #[ptr b, .int .i64 0] ∧ Z.abs = newG ls ∧ LaOk Z ∧ Grow w w' (zW b Z) :=
 Calls.mono (NewR v vs ls hvl hvb hrg w hv hvs) fun e w' he => by
  obtain ⟨r, e1, rv, e2, rfl, ⟨hn, _⟩ | ⟨_, rfl, b, Z, rfl, hZ, hl, hG⟩⟩ := he
  ·exact absurd hok hn
  exact ⟨_, e1, b, Z, rfl, hZ, hl, hG⟩
theorem newBadR (v : Value) (vs : List Value) (ls : List (List Int)) (hvl : vs.length = ls.length) (hvb : vs.length ≤ 1099511627776) (hrg : ∀ l ∈ ls, Rg (-9223372036854775808) 9223372036854775807 l ∧ 0 ≤ l.length) (hok : ¬ okA ls) (w : World) (hv : IV w v vs) (hvs : ∀ (j : Nat) (x : Value) (l : List Int), vs[j]? = some x → ls[j]? = some l → IV w x (ints .i64 l)) :
  Z0f P 6 [v] w fun r w' => r = .tuple #[.pointer none, .int .i64 280] ∧ Grow w w' [] :=
 Calls.mono (NewR v vs ls hvl hvb hrg w hv hvs) fun e w' he => by
  obtain ⟨r, e1, rv, e2, rfl, ⟨_, rfl, rfl, hG⟩ | ⟨hn, _⟩⟩ := he
  ·exact ⟨_, e1, rfl, hG⟩
  exact absurd hn hok
def Z4r (may : Bool) (ls : List (List Int)) : List (List Int) := if may = true then asksF ls else ls
def Z3Y (may : Bool) (ls : List (List Int)) : List (List Int) := (Z4r may ls).take 20
theorem St.only {w0 w : World} {B : Nat} {M : Nat → Prop} {σ : List As} {A : As} (h : St w0 B M σ w) (hA : A ∈ σ) : St w0 B M [A] w := ⟨h.ext, h.base, ⟨h.sep.ok hA, h.sep.lt hA, fun X hX => (nomatch hX), trivial⟩⟩
theorem bundle2 {w0 w : World} {B : Nat} {M : Nat → Prop} {A A' : As} (h : St w0 B M [A, A'] w) : St w0 B M [As.sep [A, A']] w :=
 Z29 (l := [A, A']) (τ' := []) (σ := []) (.refl _) (St.perm (List.perm_append_comm (l₁ := [As.sep []]) (l₂ := [A, A'])) (Z2P h))
structure AskH (w : World) (A0 : As) (q : Value) (vs : List Value) (ls : List (List Int)) : Prop where
 len : vs.length = ls.length
 rg : ∀ l ∈ ls, Rg (-9223372036854775808) 9223372036854775807 l ∧ 0 ≤ l.length
 hold : ∀ w1, St w w.heap.size Z0J [A0] w1 → IV w1 q vs ∧ ∀ (j : Nat) (x : Value) (l : List Int), vs[j]? = some x → ls[j]? = some l → IV w1 x (ints .i64 l)
theorem AskH.arg {w wc : World} {A0 : As} {q : Value} {vs : List Value} {ls : List (List Int)} {σ : List As} (h : AskH w A0 q vs ls) (hw : St w w.heap.size Z0J σ wc) (hm : A0 ∈ σ) : IV wc q vs ∧ ∀ (j : Nat) (x : Value) (l : List Int), vs[j]? = some x → ls[j]? = some l → IV wc x (ints .i64 l) := h.hold _ (St.only hw hm)
theorem AskH.cut {w wc : World} {A0 : As} {q : Value} {vs : List Value} {ls : List (List Int)} {σ : List As} (h : AskH w A0 q vs ls) (hw : St w w.heap.size Z0J σ wc) (hm : A0 ∈ σ) {n : Nat} (hn : n ≤ vs.length) :
  ∃ A c, q = .slice A vs.length c ∧ vs.length ≤ c ∧ AskH w A0 (.slice (cutA A 0 c 1) (n - 0) (c - 0)) (vs.take n) (ls.take n) := by
 obtain ⟨⟨A, c, rfl, hc, _⟩, _⟩ := h.arg hw hm
 refine ⟨A, c, rfl, hc, by rw [List.length_take, List.length_take, h.len], fun l hl => h.rg l (List.mem_of_mem_take hl), fun w1 h1 => ?_⟩
 obtain ⟨⟨A', c', e, _, hs⟩, h2⟩ := h.hold w1 h1
 injection e with e1 e2 e3
 subst e1 e3
 have h3 := IV.cut (c := 0) (l := 0) (k := n) (m := c) hs (Nat.zero_le _) hn ZO
 rw [List.drop_zero] at h3
 refine ⟨h3, fun j x l hj hl => ?_⟩
 rw [List.getElem?_take] at hj hl
 split at hj
 ·rename_i hjn
  rw [if_pos hjn] at hl
  exact h2 j x l hj hl
 cases hj
theorem GDF.mem {w0 w : World} {B : Nat} {M : Nat → Prop} {σ : List As} {rb : Nat} {Z : GDm} (hw : St w0 B M σ w) (h1 : As.blk rb 80 (zC Z) ∈ σ) (h2 : As.rk 82 5 Z.vh (Z.hs.map zrow) ∈ σ) (h3 : As.sep (Z2m Z) ∈ σ) : GDF rb Z w := by
 have hs := fun A hA => (hw.ok h3).1 A hA
 exact ⟨hw.ok h1, Own.ik (Z3j (Z4v hs)) (hw.ok h2), fun A hA => ⟨hs A hA, fun k hk => (hw.sep.lt h3 k ⟨A, hA, hk⟩).2⟩⟩
theorem zfG {w0 wc : World} {B : Nat} {M : Nat → Prop} {τ σ : List As} {rb : Nat} {Z : GDm} (hw : St w0 B M (τ ++ (zW rb Z ++ σ)) wc) : ∀ w1 : World, (∀ k, k < wc.heap.size → ¬ fps τ k → w1.heap[k]? = wc.heap[k]?) → GDF rb Z w1 := fun w1 h1 => by
 have m1 : As.blk rb 80 (zC Z) ∈ zW rb Z ++ σ := .head _
 have m2 : As.rk 82 5 Z.vh (Z.hs.map zrow) ∈ zW rb Z ++ σ := .tail _ (.head _)
 have m3 : As.sep (Z2m Z) ∈ zW rb Z ++ σ := .tail _ (.tail _ (.head _))
 have k1 := St.restKeeps hw m1 w1 h1
 have k2 := St.restKeeps hw m2 w1 h1
 have k3 := St.restKeeps hw m3 w1 h1
 refine ⟨k1, Own.ik (Z3j (Z4v fun A hA => k3.1 A hA)) k2, fun A hA => ⟨k3.1 A hA, fun k hk => ?_⟩⟩
 have hl := (hw.sep.lt (List.mem_append_right _ m3) k ⟨A, hA, hk⟩).2
 have he := h1 k hl fun ⟨X, hX, hf⟩ => hw.sep.cross X hX _ m3 k hf ⟨A, hA, hk⟩
 rcases Nat.lt_or_ge k w1.heap.size with h2 | h2
 ·exact h2
 rw [Array.getElem?_eq_none h2, Array.getElem?_eq_getElem hl] at he
 cases he
def OpOk (w : World) (r : List Value) : Prop := ∃ (d n : Int) (pv : Value) (ll : List Int) (k : Int), r = [.int .i64 d, .int .i64 n, pv, .int .i64 k] ∧ (-9223372036854775808 ≤ d ∧ d ≤ 9223372036854775807) ∧ (-9223372036854775808 ≤ n ∧ n ≤ 9223372036854775807) ∧ pv.oneCell' = true ∧ Rg (-9223372036854775808) 9223372036854775807 ll ∧ IV w pv (ints .i64 ll)
theorem OpOk.rows {w : World} {rs : List (List Value)} (h : ∀ r ∈ rs, OpOk w r) : Z1g 4 rs := fun r hr => by
 obtain ⟨d, n, pv, ll, k, rfl, _, _, h1, _⟩ := h r hr
 refine ⟨rfl, fun u hu => ?_⟩
 simp only [List.mem_cons, List.not_mem_nil, or_false] at hu
 rcases hu with rfl | rfl | rfl | rfl
 ·rfl
 ·rfl
 ·exact h1
 rfl
theorem OpOk.at {w : World} {rs : List (List Value)} (h : ∀ r ∈ rs, OpOk w r) (i : Nat) (hi : i < rs.length) : ∃ (d n : Int) (pv : Value) (ll : List Int) (k : Int), rs[i]? = some [.int .i64 d, .int .i64 n, pv, .int .i64 k] ∧ (-9223372036854775808 ≤ d ∧ d ≤ 9223372036854775807) ∧ (-9223372036854775808 ≤ n ∧ n ≤ 9223372036854775807) ∧ pv.oneCell' = true ∧ Rg (-9223372036854775808) 9223372036854775807 ll ∧ IV w pv (ints .i64 ll) := by
 obtain ⟨d, n, pv, ll, k, e, h2⟩ := h _ (List.getElem_mem hi)
 exact ⟨d, n, pv, ll, k, by rw [List.getElem?_eq_getElem hi, e], h2⟩
theorem Z2r.det {G0 G G' : GW} {l : List Int} {k : Nat} (h : Z2r G0 l k G) (h' : Z2r G0 l k G') : G = G' := by
 induction h generalizing G' with
 | zero => cases h'; rfl
 | succ h hm hp ih =>
  cases h' with
  | succ h2 hm2 hp2 =>
   obtain rfl := ih h2
   rw [hp] at hp2
   cases hp2
   rfl
theorem Z2r.le {G0 G G' : GW} {l : List Int} {k k' : Nat} (h : Z2r G0 l k G) (h' : Z2r G0 l k' G') (hn : k = l.length ∨ (k < l.length ∧ Z0A G = [])) : k' ≤ k := by
 rcases Nat.lt_or_ge k k' with hl | hl
 ·exfalso
  induction h' with
  | zero => omega
  | @succ k2 p G2 h2 hm hp ih =>
   rcases Nat.lt_or_ge k k2 with h3 | h3
   ·exact ih h3
   obtain rfl : k = k2 := by omega
   rcases hn with h4 | ⟨_, h4⟩
   ·have := (List.getElem?_eq_some_iff.1 hp).1
    omega
   exact hm ((h.det h2) ▸ h4)
 exact hl
theorem play_eq {G0 G G' : GW} {l : List Int} {k k' : Nat} (h : Z2r G0 l k G) (hn : k = l.length ∨ (k < l.length ∧ Z0A G = [])) (h' : Z2r G0 l k' G') (hn' : k' = l.length ∨ (k' < l.length ∧ Z0A G' = [])) : k' = k ∧ G' = G := by
 obtain rfl : k' = k := Nat.le_antisymm (h.le h' hn) (h'.le h hn')
 exact ⟨rfl, h'.det h⟩
theorem next_eq {G0 G G' : GW} {k k' : Nat} (h : Z1Y G0 k G) (hn : Z1L G = none) (h' : Z1Y G0 k' G') (hn' : Z1L G' = none) : k' = k ∧ G' = G := by
 obtain rfl : k' = k := Nat.le_antisymm (h.le h' hn) (h'.le h hn')
 exact ⟨rfl, h'.det h⟩
theorem gateExactBad (v : Value) (vs : List Value) (ls : List (List Int)) (hvl : vs.length = ls.length) (hrg : ∀ l ∈ ls, Rg (-9223372036854775808) 9223372036854775807 l) (may : Bool) (sv : Value) (rs : List (List Value)) (hok : ¬ okA (Z3Y may ls)) (w : World) (hv : IV w v vs) (hvs : ∀ (j : Nat) (x : Value) (l : List Int), vs[j]? = some x → ls[j]? = some l → IV w x (ints .i64 l)) (hsv : IK w 4 sv rs) (hrs : ∀ r ∈ rs, OpOk w r) :
  Z0f P 3 [v, .bool may, sv] w fun r w' => r = .bool true ∧ Grow w w' [] := by
 refine Z0o func3 rfl ntmps3 rfl ?_
 have H0 := St.start w
 refine Z03 (Z00 (Zg (Z01 (Z02 ?_))))
 refine Zk [0, 1, 2] ?_
 refine Z1q (ι := Value × List Value × As) (fun (z0 : Value × List Value × As) (w' : World) => match z0 with | ⟨q, vs1, A0⟩ => St w w.heap.size Z0J ([A0]) w' ∧ AskH w A0 q vs1 (Z4r may ls)) (fun (z0 : Value × List Value × As) => match z0 with | ⟨q, vs1, A0⟩ => [(0, q)]) [2] (.cons rfl .nil) ?_ ?_
 ·refine Z03 (Z00 (Zm (Z01 (Z02 ?_))))
  refine Zk [0, 2, 17] ?_
  (first | refine Z0c rfl ?_ ?_ | refine Z08 rfl ?_ ?_) <;> intro hc0
  ·refine Z00 (Zm ?_)
   refine Zc func4 (AsksL v vs ls hvl hrg w (H0.iarg hv) (fun j x l h1 h2 => H0.iarg (hvs j x l h1 h2))) ?_
   rintro vo w1 ⟨_, xs, rfl, hxs, hG⟩
   have H1 := hG _ _ _ _ H0
   simp only [Zca, Zna] at H1
   refine Zg (Z01 ?_)
   have H2 := St.frontL (l := [_]) H1
   simp only [Zca, Zna] at H2
   have H3 := St.frontL (l := [_]) H2
   simp only [Zca, Zna] at H3
   refine Z0w (vo, xs.map Prod.fst, As.sep [As.ro 34 vo (xs.map Prod.fst), As.sep (xs.map (fun p : Value × List Int => As.ri 3 .i64 p.1 p.2))]) ?_ (.cons rfl .nil) ?_
   ·refine ⟨bundle2 H3, ?_⟩
    have e : Z4r may ls = asksF ls := if_pos hc0
    rw [e]
    exact ⟨xs_len hxs, okA_rg (asksF_ok ls), fun w1 h1 => ⟨Own.iv ((h1.ok mem0).1 _ (.head _)), xs_iv ((h1.ok mem0).1 _ (.tail _ (.head _))) hxs⟩⟩
   exact (.cons rfl ZN .nil)
  refine Z0a ?_
  refine Z0w (v, vs, As.sep []) ?_ (.cons rfl .nil) ?_
  ·refine ⟨Z2P H0, ?_⟩
   have e : Z4r may ls = ls := if_neg (by rw [hc0]; exact Bool.false_ne_true)
   rw [e]
   exact ⟨hvl, fun l hl => ⟨hrg l hl, Nat.zero_le _⟩, fun w1 h1 => ⟨h1.iarg hv, fun j x l h2 h3 => h1.iarg (hvs j x l h2 h3)⟩⟩
  exact (.cons rfl ZN .nil)
 rintro ⟨q, vs1, A0⟩ w4 ⟨H4, hF⟩
 show RunC P _ _ _ (_ :: _) _
 refine Z1q (ι := Value × List Value) (fun (z0 : Value × List Value) (w' : World) => match z0 with | ⟨q2, vs2⟩ => St w w.heap.size Z0J ([A0]) w' ∧ AskH w A0 q2 vs2 (Z3Y may ls) ∧ vs2.length ≤ 20) (fun (z0 : Value × List Value) => match z0 with | ⟨q2, vs2⟩ => [(0, q2)]) [2] (.cons rfl .nil) ?_ ?_
 ·refine Z03 (Z00 (Zm ?_))
  refine Z3L rfl rfl underlying22 rfl (hF.arg H4 mem0).1 ?_
  refine Zw ?_
  refine Z01 (Z02 ?_)
  refine Zk [0, 2, 22] ?_
  (first | refine Z0c rfl ?_ ?_ | refine Z08 rfl ?_ ?_) <;> intro hc1
  ·refine Z00 (Zm ?_)
   obtain ⟨Aq, cq, hqe, hqc, hq20⟩ := hF.cut H4 mem0 (n := 20) ZO
   refine Z2d (size := 1) (l := 0) (h := 20) (mm := cq) rfl rfl underlying22 tz34 (by show some q = _; rw [hqe]) rfl rfl rfl rfl rfl rfl (by simp) ZO ZO (Nat.le_refl _) ?_
   refine Zg (Z01 ?_)
   refine Z0w (.slice (cutA Aq 0 cq 1) (20 - 0) (cq - 0), vs1.take 20) ?_ (.cons rfl .nil) ?_
   ·exact ⟨H4, hq20, by simp; omega⟩
   exact (.cons rfl ZN .nil)
  refine Z0a ?_
  refine Z0w (q, vs1) ?_ (.cons rfl .nil) ?_
  ·refine ⟨H4, ?_, ZO⟩
   have e : Z3Y may ls = Z4r may ls := List.take_of_length_le (by have := hF.len; omega)
   rw [e]
   exact hF
  exact (.cons rfl ZN .nil)
 rintro ⟨q2, vs2⟩ w5 ⟨H5, hF2, h20⟩
 show RunC P _ _ _ (_ :: _) _
 refine Z03 (Z00 (Zm ?_))
 refine Zc func5 (newBad q2 vs2 (Z3Y may ls) hF2.len ZO hF2.rg hok w5 (hF2.arg H5 mem0).1 (hF2.arg H5 mem0).2) ?_
 rintro _ w6 ⟨rfl, hG⟩
 have H6 := hG _ _ _ _ H5
 simp only [Zca, Zna] at H6
 refine Zm ?_
 refine Zx (Zx (Zg ?_))
 refine Zg (Z01 (Z02 ?_))
 refine Zk [0, 2, 7, 8] ?_
 refine Z03 (Z00 (Zm ?_))
 refine Zc func6 (newBadR q2 vs2 (Z3Y may ls) hF2.len ZO hF2.rg hok w6 (hF2.arg H6 mem0).1 (hF2.arg H6 mem0).2) ?_
 rintro _ w7 ⟨rfl, hG⟩
 have H7 := hG _ _ _ _ H6
 simp only [Zca, Zna] at H7
 refine Zm ?_
 refine Zx (Zx (Zg ?_))
 refine Zg (Z01 (Z02 ?_))
 refine Zk [0, 2, 7, 8, 9, 10] ?_
 refine Z03 (Z03 (Z00 (Zm ?_)))
 refine Z13 rfl rfl func7 rfl rfl (.cons rfl .nil) (numL28 _ _) ?_
 refine Zm ?_
 refine Zo ?_
 refine Z0j (s := 38) (v' := .bool false) rfl (by rfl) ?_
 refine Zm ?_
 refine Zm ?_
 refine Z40 ZK rfl rfl rfl rfl ?_
 refine Zm ?_
 refine Z40 ZK rfl rfl rfl rfl ?_
 refine Z4o underlying4 rfl rfl rfl rfl ?_
 refine Z0j (s := 44) (v' := .bool false) rfl (by rfl) ?_
 refine Z0Z rfl rfl rfl rfl ?_
 refine Zm ?_
 refine Zc func8 (wakes28 w7) ?_
 rintro _ w8 ⟨rfl, hG⟩
 have H8 := hG _ _ _ _ H7
 simp only [Zca, Zna] at H8
 first | refine Z38 rfl rfl rfl ?_ | refine Z3v rfl rfl rfl ?_
 refine Z0j (s := 48) (v' := .bool false) rfl (by rfl) ?_
 refine Z0Z rfl rfl rfl rfl ?_
 refine Z01 (Z02 ?_)
 refine Zk [0, 2, 7, 9, 49] ?_
 refine Z0Q rfl rfl ?_
 refine Z0a (Z02 ?_)
 refine Zk [0, 2, 7, 9] ?_
 refine Z03 (Z03 (Z00 (Zm ?_)))
 refine Z40 ZK rfl rfl rfl rfl ?_
 refine Z0j (s := 51) (v' := .bool true) rfl (by rfl) ?_
 refine Z01 (Z02 ?_)
 refine Zk [0, 2, 7, 9, 51] ?_
 refine Z4L rfl rfl ?_
 refine Z03 (Z00 (Zg (Z01 (Z02 ?_))))
 refine Zk [6] ?_
 refine Z0i ?_
 refine Z07 ?_
 refine Z0e results3 rfl ?_
 refine ⟨_, rfl, ?_⟩
 have H9 := St.del .head H8
 exact ⟨rfl, H9.grows⟩
theorem gateExactOk (v : Value) (vs : List Value) (ls : List (List Int)) (hvl : vs.length = ls.length) (hrg : ∀ l ∈ ls, Rg (-9223372036854775808) 9223372036854775807 l) (may : Bool) (sv : Value) (rs : List (List Value)) (hok : okA (Z3Y may ls)) (w : World) (hv : IV w v vs) (hvs : ∀ (j : Nat) (x : Value) (l : List Int), vs[j]? = some x → ls[j]? = some l → IV w x (ints .i64 l)) (hsv : IK w 4 sv rs) (hrs : ∀ r ∈ rs, OpOk w r) :
  Z0f P 3 [v, .bool may, sv] w fun r w' => r = .bool true ∧ Grow w w' [] := by
 refine Z0o func3 rfl ntmps3 rfl ?_
 have H0 := St.start w
 refine Z03 (Z00 (Zg (Z01 (Z02 ?_))))
 refine Zk [0, 1, 2] ?_
 refine Z1q (ι := Value × List Value × As) (fun (z0 : Value × List Value × As) (w' : World) => match z0 with | ⟨q, vs1, A0⟩ => St w w.heap.size Z0J ([A0]) w' ∧ AskH w A0 q vs1 (Z4r may ls)) (fun (z0 : Value × List Value × As) => match z0 with | ⟨q, vs1, A0⟩ => [(0, q)]) [2] (.cons rfl .nil) ?_ ?_
 ·refine Z03 (Z00 (Zm (Z01 (Z02 ?_))))
  refine Zk [0, 2, 17] ?_
  (first | refine Z0c rfl ?_ ?_ | refine Z08 rfl ?_ ?_) <;> intro hc0
  ·refine Z00 (Zm ?_)
   refine Zc func4 (AsksL v vs ls hvl hrg w (H0.iarg hv) (fun j x l h1 h2 => H0.iarg (hvs j x l h1 h2))) ?_
   rintro vo w1 ⟨_, xs, rfl, hxs, hG⟩
   have H1 := hG _ _ _ _ H0
   simp only [Zca, Zna] at H1
   refine Zg (Z01 ?_)
   have H2 := St.frontL (l := [_]) H1
   simp only [Zca, Zna] at H2
   have H3 := St.frontL (l := [_]) H2
   simp only [Zca, Zna] at H3
   refine Z0w (vo, xs.map Prod.fst, As.sep [As.ro 34 vo (xs.map Prod.fst), As.sep (xs.map (fun p : Value × List Int => As.ri 3 .i64 p.1 p.2))]) ?_ (.cons rfl .nil) ?_
   ·refine ⟨bundle2 H3, ?_⟩
    have e : Z4r may ls = asksF ls := if_pos hc0
    rw [e]
    exact ⟨xs_len hxs, okA_rg (asksF_ok ls), fun w1 h1 => ⟨Own.iv ((h1.ok mem0).1 _ (.head _)), xs_iv ((h1.ok mem0).1 _ (.tail _ (.head _))) hxs⟩⟩
   exact (.cons rfl ZN .nil)
  refine Z0a ?_
  refine Z0w (v, vs, As.sep []) ?_ (.cons rfl .nil) ?_
  ·refine ⟨Z2P H0, ?_⟩
   have e : Z4r may ls = ls := if_neg (by rw [hc0]; exact Bool.false_ne_true)
   rw [e]
   exact ⟨hvl, fun l hl => ⟨hrg l hl, Nat.zero_le _⟩, fun w1 h1 => ⟨h1.iarg hv, fun j x l h2 h3 => h1.iarg (hvs j x l h2 h3)⟩⟩
  exact (.cons rfl ZN .nil)
 rintro ⟨q, vs1, A0⟩ w4 ⟨H4, hF⟩
 show RunC P _ _ _ (_ :: _) _
 refine Z1q (ι := Value × List Value) (fun (z0 : Value × List Value) (w' : World) => match z0 with | ⟨q2, vs2⟩ => St w w.heap.size Z0J ([A0]) w' ∧ AskH w A0 q2 vs2 (Z3Y may ls) ∧ vs2.length ≤ 20) (fun (z0 : Value × List Value) => match z0 with | ⟨q2, vs2⟩ => [(0, q2)]) [2] (.cons rfl .nil) ?_ ?_
 ·refine Z03 (Z00 (Zm ?_))
  refine Z3L rfl rfl underlying22 rfl (hF.arg H4 mem0).1 ?_
  refine Zw ?_
  refine Z01 (Z02 ?_)
  refine Zk [0, 2, 22] ?_
  (first | refine Z0c rfl ?_ ?_ | refine Z08 rfl ?_ ?_) <;> intro hc1
  ·refine Z00 (Zm ?_)
   obtain ⟨Aq, cq, hqe, hqc, hq20⟩ := hF.cut H4 mem0 (n := 20) ZO
   refine Z2d (size := 1) (l := 0) (h := 20) (mm := cq) rfl rfl underlying22 tz34 (by show some q = _; rw [hqe]) rfl rfl rfl rfl rfl rfl (by simp) ZO ZO (Nat.le_refl _) ?_
   refine Zg (Z01 ?_)
   refine Z0w (.slice (cutA Aq 0 cq 1) (20 - 0) (cq - 0), vs1.take 20) ?_ (.cons rfl .nil) ?_
   ·exact ⟨H4, hq20, by simp; omega⟩
   exact (.cons rfl ZN .nil)
  refine Z0a ?_
  refine Z0w (q, vs1) ?_ (.cons rfl .nil) ?_
  ·refine ⟨H4, ?_, ZO⟩
   have e : Z3Y may ls = Z4r may ls := List.take_of_length_le (by have := hF.len; omega)
   rw [e]
   exact hF
  exact (.cons rfl ZN .nil)
 rintro ⟨q2, vs2⟩ w5 ⟨H5, hF2, h20⟩
 show RunC P _ _ _ (_ :: _) _
 refine Z03 (Z00 (Zm ?_))
 refine Zc func5 (newOk q2 vs2 (Z3Y may ls) hF2.len ZO hF2.rg hok w5 (hF2.arg H5 mem0).1 (hF2.arg H5 mem0).2) ?_
 rintro _ w6 ⟨gb, gX, rfl, hgX, hG⟩
 have H6 := hG _ _ _ _ H5
 simp only [gW, List.cons_append, List.nil_append] at H6
 refine Zm ?_
 refine Zx (Zx (Zg ?_))
 refine Zg (Z01 (Z02 ?_))
 refine Zk [0, 2, 7, 8] ?_
 refine Z03 (Z00 (Zm ?_))
 refine Zc func6 (newOkR q2 vs2 (Z3Y may ls) hF2.len ZO hF2.rg hok w6 (hF2.arg H6 mem4).1 (hF2.arg H6 mem4).2) ?_
 rintro _ w7 ⟨rb, zZ, rfl, hzZ, hlz, hG⟩
 have H7 := hG _ _ _ _ H6
 simp only [zW, List.cons_append, List.nil_append] at H7
 refine Zm ?_
 refine Zx (Zx (Zg ?_))
 refine Zg (Z01 (Z02 ?_))
 refine Zk [0, 2, 7, 8, 9, 10] ?_
 refine Z03 (Z03 (Z00 (Zm ?_)))
 refine Z13 rfl rfl func7 rfl rfl (.cons rfl .nil) (numL28 _ _) ?_
 refine Zm ?_
 refine Zo ?_
 refine Z0j (s := 38) (v' := .bool false) rfl (by rfl) ?_
 refine Zm ?_
 refine Zm ?_
 refine Z40 ZK rfl rfl rfl rfl ?_
 refine Zm ?_
 refine Z40 ZK rfl rfl rfl rfl ?_
 refine Z4o underlying4 rfl rfl rfl rfl ?_
 refine Z0j (s := 44) (v' := .bool false) rfl (by rfl) ?_
 refine Z0Z rfl rfl rfl rfl ?_
 refine Zm ?_
 refine Zc func8 (wakes28 w7) ?_
 rintro _ w8 ⟨rfl, hG⟩
 have H8 := hG _ _ _ _ H7
 simp only [Zca, Zna] at H8
 first | refine Z38 rfl rfl rfl ?_ | refine Z3v rfl rfl rfl ?_
 refine Z0j (s := 48) (v' := .bool false) rfl (by rfl) ?_
 refine Z0Z rfl rfl rfl rfl ?_
 refine Z01 (Z02 ?_)
 refine Zk [0, 2, 7, 9, 49] ?_
 refine Z0Q rfl rfl ?_
 refine Z0a (Z02 ?_)
 refine Zk [0, 2, 7, 9] ?_
 refine Z03 (Z03 (Z00 (Zm ?_)))
 refine Z40 ZK rfl rfl rfl rfl ?_
 refine Z0j (s := 51) (v' := .bool false) rfl (by rfl) ?_
 refine Z01 (Z02 ?_)
 refine Zk [0, 2, 7, 9, 51] ?_
 refine Z0Q rfl rfl ?_
 refine Z0a (Z02 ?_)
 refine Zk [0, 2, 7, 9] ?_
 refine Z03 (Z00 ?_)
 have hIw : Wf gX.abs := by rw [hgX]; exact newG_wf hok
 have hIz : zZ.abs = gX.abs := hzZ.trans hgX.symm
 refine Zg (Z01 (Z02 (Z03 (Z03 (Z00 ?_)))))
 have H9 := St.frontL (l := [_, _, _, _, _, _, _]) H8
 simp only [Zca, Zna] at H9
 have H10 := St.frontL (l := [_, _, _]) H9
 simp only [Zca, Zna] at H10
 have H11 := St.frontL (l := [_, _, _]) H10
 simp only [Zca, Zna] at H11
 have H12 := St.frontL (l := [_, _, _]) H11
 simp only [Zca, Zna] at H12
 have H13 := St.frontL (l := [_, _, _, _, _, _, _]) H12
 simp only [Zca, Zna] at H13
 have H14 := St.frontL (l := [_, _, _, _, _, _, _]) H13
 simp only [Zca, Zna] at H14
 have H15 := St.frontL (l := [_, _, _, _, _, _, _]) H14
 simp only [Zca, Zna] at H15
 have H16 := St.frontL (l := [_, _, _, _, _, _, _]) H15
 simp only [Zca, Zna] at H16
 refine Zg (Z01 (Z02 (Z0d ?_)))
 refine Z0z (ι := Nat × Int × Gm × GDm) (fun (z0 : Nat × Int × Gm × GDm) => match z0 with | ⟨i, lf, Y, Z⟩ => rs.length - i) (fun (z0 : Nat × Int × Gm × GDm) (w' : World) => match z0 with | ⟨i, lf, Y, Z⟩ => St w w.heap.size Z0J (gW gb Y ++ (zW rb Z ++ [A0])) w' ∧ i ≤ rs.length ∧ i ≤ 60 ∧ (0 ≤ lf ∧ lf ≤ 2000) ∧ Wf Y.abs ∧ Z.abs = Y.abs ∧ LaOk Z) (fun (z0 : Nat × Int × Gm × GDm) => match z0 with | ⟨i, lf, Y, Z⟩ => [(11, .int .i64 lf), (12, .int .i64 (i : Int))]) [0, 2, 7, 9] (0, 2000, gX, zZ) ?_ (.cons rfl (.cons rfl (.cons rfl (.cons rfl .nil)))) ?_ ?_
 ·exact ⟨H16, ZO, ZO, ZO, hIw, hIz, hlz⟩
 ·exact (.cons rfl ZN (.cons rfl ZN .nil))
 rintro ⟨i, lf, Y, Z⟩ w17 ⟨H17, hi, hi60, hlf, hwY, hZY, hlZ⟩
 show RunC P _ _ _ (_ :: _) _
 simp only [gW, zW, List.cons_append, List.nil_append] at H17
 refine Z03 (Z03 (Z00 (Zm ?_)))
 refine Zm ?_
 refine Z1B rfl rfl underlying23 rfl (H17.ikarg hsv) ?_
 refine Zl ?_
 refine Zm ?_
 apply Z47 2 [0, 2, 7, 9, 11, 12] rfl rfl (.cons rfl (.cons rfl (.cons rfl (.cons rfl (.cons rfl (.cons rfl (.cons rfl .nil))))))) rfl rfl (fun _ => rfl) rfl rfl rfl
 ·intro hg13_5
  refine Zm ?_
  refine Zl ?_
  refine Z01 ?_
  exact Z0O rfl (.cons rfl (ZT hg13_5) (.cons rfl rfl (.cons rfl rfl (.cons rfl rfl (.cons rfl rfl (.cons rfl rfl (.cons rfl rfl .nil)))))))
  all_goals infer_instance
 refine Z01 (Z02 ?_)
 refine Zk [0, 2, 7, 9, 11, 12, 59] ?_
 (first | refine Z0c rfl ?_ ?_ | refine Z08 rfl ?_ ?_) <;> intro hc4
 ·refine Z0a (Z02 ?_)
  refine Zk [0, 2, 7, 9, 11, 12] ?_
  refine Z03 (Z0d (Z03 (Z00 ?_)))
  have hwZ : Wf Z.abs := by rw [hZY]; exact hwY
  obtain ⟨dd, n, pv, ll, kk, hre, hd, hn, hpv, hll, hpi⟩ := OpOk.at hrs i ZO
  refine Zm ?_
  refine Zm ?_
  refine Z3J (j := i) rfl rfl underlying23 tz36 (by decide) rfl rfl (H17.ikarg hsv) rfl ZO (fun A15 c15 hA15 => ?_)
  refine Z2w (j := i) rfl rfl underlying36 rfl tz36 rfl hA15 (H17.ikarg hsv) hre ?_
  refine Z0X H17 ta36 rfl rfl (fun b15_4 w18 H18 => ?_)
  refine Z0m H18 .head (.zero (.zero (.zero (.zero .nil)))) rfl tz36 rfl rfl ZC (fun w19 H19 => ?_)
  refine Z01 (Z02 ?_)
  refine Zk [0, 2, 7, 9, 11, 12, 13] ?_
  refine Z1q (ι := Int × Gm × GDm) (fun (z0 : Int × Gm × GDm) (w' : World) => match z0 with | ⟨lf2, Y2, Z2⟩ => St w w.heap.size Z0J (gW gb Y2 ++ (zW rb Z2 ++ [A0, As.blk b15_4 36 [.int .i64 dd, .int .i64 n, pv, .int .i64 kk]])) w' ∧ (0 ≤ lf2 ∧ lf2 ≤ 2000) ∧ Wf Y2.abs ∧ Z2.abs = Y2.abs ∧ LaOk Z2) (fun (z0 : Int × Gm × GDm) => match z0 with | ⟨lf2, Y2, Z2⟩ => [(11, .int .i64 lf2)]) [0, 2, 7, 9, 12, 13] (.cons rfl (.cons rfl (.cons rfl (.cons rfl (.cons rfl (.cons rfl .nil)))))) ?_ ?_
  ·refine Z03 (Z00 (Z09 fo36_0 rfl rfl rfl ?_))
   refine Z05 H19 mem0 rfl rfl underlying3 rfl rfl rfl ?_
   refine Zp func9 (withinW dd 0 3 hd ZO _) ?_
   refine Z01 (Z02 ?_)
   refine Zk [0, 2, 7, 9, 11, 12, 13, 68] ?_
   refine Z0d (Z03 (Z00 ?_))
   refine Ze ?_
   refine Zg (Z01 (Z02 ?_))
   refine Zk [0, 2, 7, 9, 11, 12, 13, 68, 69] ?_
   (first | refine Z0c rfl ?_ ?_ | refine Z08 rfl ?_ ?_) <;> intro hc5
   ·refine Z03 ?_
    have H20 := H19.drewn
    refine Z1a (n := 10) [Zz,Zz,Zz,Zz,Zz,Zz,Zz,Zz,Zz,Zz] (fun wS => (As.blk b15_4 36 [.int .i64 dd, .int .i64 n, pv, .int .i64 kk]).ok wS) ZK rfl rfl ?_
    apply Zu (L' := [Zy,Zz,Zz,Zz,Zz,Zz,Zz,Zz,Zz,Zz]) 0 (H20.ok mem0)
    ·intro wS sS
     refine Zm (Z01 ?_)
     exact Z04 rfl
    apply Zu (L' := [Zy,Zy,Zz,Zz,Zz,Zz,Zz,Zz,Zz,Zz]) 1 (H20.ok mem0)
    ·intro wS sS
     refine Z09 Z1x rfl rfl rfl (Z01 ?_)
     exact Z04 rfl
    apply Zu (L' := [Zy,Zy,Zy,Zz,Zz,Zz,Zz,Zz,Zz,Zz]) 2 (H20.ok mem0)
    ·intro wS sS
     refine Z05 (Z0r sS) mem0 rfl rfl underlying3 rfl rfl rfl ?_
     refine Z01 ?_
     exact Z04 rfl
    apply Zu (L' := [Zy,Zy,Zy,Zz,Zz,Zy,Zz,Zz,Zz,Zz]) 5 (H20.ok mem0)
    ·intro wS sS
     refine Zm (Z01 ?_)
     exact Z04 rfl
    apply Zu (L' := [Zy,Zy,Zy,Zz,Zz,Zy,Zy,Zz,Zz,Zz]) 6 (H20.ok mem0)
    ·intro wS sS
     refine Z09 Z1x rfl rfl rfl (Z01 ?_)
     exact Z04 rfl
    apply Zu (L' := [Zy,Zy,Zy,Zz,Zz,Zy,Zy,Zy,Zz,Zz]) 7 (H20.ok mem0)
    ·intro wS sS
     refine Z05 (Z0r sS) mem0 rfl rfl underlying3 rfl rfl rfl ?_
     refine Z01 ?_
     exact Z04 rfl
    refine Z0v (L' := [Zy,Zy,Zy,Zy,Zz,Zy,Zy,Zy,Zz,Zz]) 3 ZK rfl rfl ?_
    have H21 := St.frontL (l := [_, _, _, _]) H20
    simp only [Zca, Zna] at H21
    have H22 := St.frontL (l := [_, _, _, _]) H21
    simp only [Zca, Zna] at H22
    have H23 := St.frontL (l := [_, _, _, _]) H22
    simp only [Zca, Zna] at H23
    have H24 := St.frontL (l := [_, _, _, _]) H23
    simp only [Zca, Zna] at H24
    refine Zc func10 (DoG gb Y hwY n hn w19.drew (St.rows (τ := gW gb Y) H24)) ?_
    rintro _ w25 ⟨Y2, rfl, hY2, hX2⟩
    have H25 := hX2 _ _ _ _ H24
    simp only [gW, List.cons_append, List.nil_append] at H25
    refine Z01 ?_
    refine Z0n (H25.ok mem4) ?_
    refine Z0v (L' := [Zy,Zy,Zy,Zy,Zy,Zy,Zy,Zy,Zz,Zz]) 4 ZK rfl rfl ?_
    refine Z13 rfl rfl func7 rfl rfl (.cons rfl .nil) (numL28 _ _) ?_
    refine Z01 ?_
    refine Z0n (H25.ok mem4) ?_
    refine Z0v (L' := [Zy,Zy,Zy,Zy,Zy,Zy,Zy,Zy,Zy,Zz]) 8 ZK rfl rfl ?_
    have H26 := St.frontL (l := [_, _, _, _, _, _, _]) H25
    simp only [Zca, Zna] at H26
    have H27 := St.frontL (l := [_, _, _, _, _, _, _]) H26
    simp only [Zca, Zna] at H27
    have H28 := St.frontL (l := [_, _, _, _, _, _, _]) H27
    simp only [Zca, Zna] at H28
    refine Zc func11 (DoR rb Z hwZ hlZ n w25 (St.rows (τ := zW rb Z) H28)) ?_
    rintro _ w29 ⟨Z2, rfl, hZ2, hlZ2, hX2⟩
    have H29 := hX2 _ _ _ _ H28
    simp only [zW, List.cons_append, List.nil_append] at H29
    refine Z01 ?_
    refine Z0n (H29.ok mem7) ?_
    apply Zu (L' := [Zy,Zy,Zy,Zy,Zy,Zy,Zy,Zy,Zy,Zy]) 9 (H29.ok mem7)
    ·intro wS sS
     refine Zo ?_
     refine Z0j (s := 80) (v' := .bool false) rfl (by rw [hZY]; simp) ?_
     refine Z01 ?_
     exact Z04 rfl
    refine Z0B ZK ?_
    refine Z02 ?_
    refine Zk [0, 2, 7, 9, 11, 12, 13, 80] ?_
    refine Z0Q rfl rfl ?_
    refine Z0a ?_
    refine Z0F ?_
    have H30 := St.frontL (l := [_, _, _, _, _, _, _]) H29
    simp only [Zca, Zna] at H30
    have H31 := St.frontL (l := [_, _, _, _, _, _, _, _]) H30
    simp only [Zca, Zna] at H31
    have H32 := St.frontL (l := [_, _, _, _]) H31
    simp only [Zca, Zna] at H32
    have H33 := St.frontL (l := [_, _, _, _]) H32
    simp only [Zca, Zna] at H33
    have H34 := St.frontL (l := [_, _, _, _]) H33
    simp only [Zca, Zna] at H34
    have H35 := St.frontL (l := [_, _, _, _, _, _, _, _]) H34
    simp only [Zca, Zna] at H35
    have H36 := St.frontL (l := [_, _, _, _, _, _, _, _]) H35
    simp only [Zca, Zna] at H36
    have H37 := St.frontL (l := [_, _, _, _, _, _, _, _]) H36
    simp only [Zca, Zna] at H37
    have H38 := St.frontL (l := [_, _, _, _, _, _, _, _]) H37
    simp only [Zca, Zna] at H38
    refine Z0w (lf, Y2, Z2) ?_ (.cons rfl (.cons rfl (.cons rfl (.cons rfl (.cons rfl (.cons rfl .nil)))))) ?_
    ·exact ⟨H38, ZO, by rw [hY2]; exact doRes_wf hwY, by rw [hZ2, hY2, hZY], hlZ2⟩
    exact (.cons rfl ZN .nil)
   refine Z03 (Z00 ?_)
   refine Ze ?_
   refine Zg (Z01 (Z02 ?_))
   refine Zk [0, 2, 7, 9, 11, 12, 13, 68, 81] ?_
   (first | refine Z0c rfl ?_ ?_ | refine Z08 rfl ?_ ?_) <;> intro hc7
   ·refine Z03 (Z00 (Z09 fo36_2 rfl rfl rfl ?_))
    refine Z05 H19 mem0 rfl rfl underlying34 rfl rfl rfl ?_
    refine Zg (Z01 (Z02 ?_))
    refine Zk [0, 2, 7, 9, 11, 12, 13, 14] ?_
    refine Z1q (ι := Value) (fun (q3 : Value) (w' : World) => St w w.heap.size Z0J (gW gb Y ++ (zW rb Z ++ [A0, As.blk b15_4 36 [.int .i64 dd, .int .i64 n, pv, .int .i64 kk]])) w' ∧ IV w q3 (ints .i64 (ll.take lf.toNat))) (fun (q3 : Value) => [(14, q3)]) [0, 2, 7, 9, 11, 12, 13] (.cons rfl (.cons rfl (.cons rfl (.cons rfl (.cons rfl (.cons rfl (.cons rfl .nil))))))) ?_ ?_
    ·refine Z03 (Z00 (Zm ?_))
     refine Z0u rfl rfl underlying34 rfl (H19.iarg hpi) ?_
     refine Zm ?_
     refine Zw ?_
     refine Z01 (Z02 ?_)
     refine Zk [0, 2, 7, 9, 11, 12, 13, 14, 88] ?_
     (first | refine Z0c rfl ?_ ?_ | refine Z08 rfl ?_ ?_) <;> intro hc8
     ·refine Z00 (Zm ?_)
      refine Zm ?_
      obtain ⟨Ap, cp, hpe, hpc, hpq⟩ := iv_cutE (n := lf.toNat) hpi ZO
      refine Z2d (size := 1) (l := 0) (h := lf.toNat) (mm := cp) rfl rfl underlying34 tz3 (by show some pv = _; rw [hpe]) rfl rfl rfl rfl (by show lf = ((lf.toNat : Nat) : Int); omega) rfl (by simp) ZO ZO (Nat.le_refl _) ?_
      refine Zg (Z01 ?_)
      have H39 := St.frontL (l := [_, _, _, _, _, _, _, _]) H19
      simp only [Zca, Zna] at H39
      have H40 := St.frontL (l := [_, _, _, _, _, _, _, _]) H39
      simp only [Zca, Zna] at H40
      have H41 := St.frontL (l := [_, _, _, _, _, _, _, _]) H40
      simp only [Zca, Zna] at H41
      have H42 := St.frontL (l := [_, _, _, _, _, _, _, _]) H41
      simp only [Zca, Zna] at H42
      have H43 := St.frontL (l := [_, _, _, _, _, _, _, _]) H42
      simp only [Zca, Zna] at H43
      have H44 := St.frontL (l := [_, _, _, _, _, _, _, _]) H43
      simp only [Zca, Zna] at H44
      have H45 := St.frontL (l := [_, _, _, _, _, _, _, _]) H44
      simp only [Zca, Zna] at H45
      have H46 := St.frontL (l := [_, _, _, _, _, _, _, _]) H45
      simp only [Zca, Zna] at H46
      refine Z0w (.slice (cutA Ap 0 cp 1) (lf.toNat - 0) (cp - 0)) ?_ (.cons rfl (.cons rfl (.cons rfl (.cons rfl (.cons rfl (.cons rfl (.cons rfl .nil))))))) ?_
      ·exact ⟨H46, hpq⟩
      exact (.cons rfl ZN .nil)
     refine Z0a ?_
     have H47 := St.frontL (l := [_, _, _, _, _, _, _, _]) H19
     simp only [Zca, Zna] at H47
     have H48 := St.frontL (l := [_, _, _, _, _, _, _, _]) H47
     simp only [Zca, Zna] at H48
     have H49 := St.frontL (l := [_, _, _, _, _, _, _, _]) H48
     simp only [Zca, Zna] at H49
     have H50 := St.frontL (l := [_, _, _, _, _, _, _, _]) H49
     simp only [Zca, Zna] at H50
     have H51 := St.frontL (l := [_, _, _, _, _, _, _, _]) H50
     simp only [Zca, Zna] at H51
     have H52 := St.frontL (l := [_, _, _, _, _, _, _, _]) H51
     simp only [Zca, Zna] at H52
     have H53 := St.frontL (l := [_, _, _, _, _, _, _, _]) H52
     simp only [Zca, Zna] at H53
     have H54 := St.frontL (l := [_, _, _, _, _, _, _, _]) H53
     simp only [Zca, Zna] at H54
     refine Z0w (pv) ?_ (.cons rfl (.cons rfl (.cons rfl (.cons rfl (.cons rfl (.cons rfl (.cons rfl .nil))))))) ?_
     ·exact ⟨H54, by rw [List.take_of_length_le ZO]; exact hpi⟩
     exact (.cons rfl ZN .nil)
    rintro q3 w55 ⟨H55, hq3⟩
    show RunC P _ _ _ (_ :: _) _
    refine Z03 (Z00 ?_)
    have hlt : (((ll.take lf.toNat)).length : Int) ≤ lf := by simp; omega
    refine Zm ?_
    refine Zm ?_
    refine Z0u rfl rfl underlying34 rfl (H55.iarg hq3) ?_
    refine Z0W rfl rfl rfl rfl (Z0l ZO) ?_
    refine Zg (Z01 (Z02 ?_))
    refine Zk [0, 2, 7, 9, 11, 12, 13, 14] ?_
    refine Z03 (Z00 (Zm ?_))
    refine Zm ?_
    have H56 := St.frontL (l := [_, _, _]) H55
    simp only [Zca, Zna] at H56
    have H57 := St.frontL (l := [_, _, _]) H56
    simp only [Zca, Zna] at H57
    have H58 := St.frontL (l := [_, _, _]) H57
    simp only [Zca, Zna] at H58
    have H59 := St.frontL (l := [_, _, _]) H58
    simp only [Zca, Zna] at H59
    refine Zc func12 (PlayG gb Y hwY q3 (ll.take lf.toNat) (fun x hx => hll x (List.mem_of_mem_take hx)) (by simp; omega) w55 (St.rows (τ := gW gb Y) H59) (argG (τ := gW gb Y) H59 hq3)) ?_
    rintro _ w60 ⟨kg, Y2, rfl, hPg, hQg, hX2⟩
    have H60 := hX2 _ _ _ _ H59
    simp only [gW, List.cons_append, List.nil_append] at H60
    refine Zm ?_
    refine Zm ?_
    have H61 := St.frontL (l := [_, _, _, _, _, _]) H60
    simp only [Zca, Zna] at H61
    have H62 := St.frontL (l := [_, _, _, _, _, _]) H61
    simp only [Zca, Zna] at H62
    have H63 := St.frontL (l := [_, _, _, _, _, _]) H62
    simp only [Zca, Zna] at H63
    refine Zc func13 (PlayR rb Z hwZ hlZ q3 (ll.take lf.toNat) (fun x hx => hll x (List.mem_of_mem_take hx)) (by simp; omega) w60 (St.rows (τ := zW rb Z) H63) (argG (τ := zW rb Z) H63 hq3)) ?_
    rintro _ w64 ⟨kr, Z2, rfl, hPr, hQr, hlZ2, hX2⟩
    have H64 := hX2 _ _ _ _ H63
    simp only [zW, List.cons_append, List.nil_append] at H64
    have hpe2 := play_eq hPg hQg (hZY ▸ hPr) hQr
    refine Zo ?_
    refine Z0j (s := 102) (v' := .bool false) rfl (by rw [hpe2.1]; simp) ?_
    refine Z01 (Z02 ?_)
    refine Zk [0, 2, 7, 9, 11, 12, 13, 102] ?_
    refine Z0Q rfl rfl ?_
    refine Z0a ?_
    refine Z0F ?_
    have H65 := St.frontL (l := [_, _, _, _, _, _, _, _]) H64
    simp only [Zca, Zna] at H65
    have H66 := St.frontL (l := [_, _, _, _, _, _, _, _]) H65
    simp only [Zca, Zna] at H66
    have H67 := St.frontL (l := [_, _, _, _]) H66
    simp only [Zca, Zna] at H67
    have H68 := St.frontL (l := [_, _, _, _]) H67
    simp only [Zca, Zna] at H68
    have H69 := St.frontL (l := [_, _, _, _]) H68
    simp only [Zca, Zna] at H69
    have H70 := St.frontL (l := [_, _, _, _, _, _, _, _]) H69
    simp only [Zca, Zna] at H70
    have H71 := St.frontL (l := [_, _, _, _, _, _, _, _]) H70
    simp only [Zca, Zna] at H71
    have H72 := St.frontL (l := [_, _, _, _, _, _, _, _]) H71
    simp only [Zca, Zna] at H72
    have H73 := St.frontL (l := [_, _, _, _, _, _, _, _]) H72
    simp only [Zca, Zna] at H73
    refine Z0w (lf - ((ll.take lf.toNat).length : Int), Y2, Z2) ?_ (.cons rfl (.cons rfl (.cons rfl (.cons rfl (.cons rfl (.cons rfl .nil)))))) ?_
    ·exact ⟨H73, ZO, hPg.wf hwY, hpe2.2, hlZ2⟩
    exact (.cons rfl ZN .nil)
   refine Z03 (Z00 ?_)
   refine Ze ?_
   refine Zg (Z01 (Z02 ?_))
   refine Zk [0, 2, 7, 9, 11, 12, 13, 103] ?_
   (first | refine Z0c rfl ?_ ?_ | refine Z08 rfl ?_ ?_) <;> intro hc10
   ·refine Z03 (Z00 (Zm ?_))
    have H74 := St.frontL (l := [_, _, _, _]) H19
    simp only [Zca, Zna] at H74
    have H75 := St.frontL (l := [_, _, _, _]) H74
    simp only [Zca, Zna] at H75
    have H76 := St.frontL (l := [_, _, _, _]) H75
    simp only [Zca, Zna] at H76
    have H77 := St.frontL (l := [_, _, _, _]) H76
    simp only [Zca, Zna] at H77
    refine Zc func14 (RestG gb Y hwY w19 (St.rows (τ := gW gb Y) H77)) ?_
    rintro _ w78 ⟨kg, Y2, rfl, hPg, hQg, hX2⟩
    have H78 := hX2 _ _ _ _ H77
    simp only [gW, List.cons_append, List.nil_append] at H78
    refine Zm ?_
    have H79 := St.frontL (l := [_, _, _, _, _, _, _]) H78
    simp only [Zca, Zna] at H79
    have H80 := St.frontL (l := [_, _, _, _, _, _, _]) H79
    simp only [Zca, Zna] at H80
    have H81 := St.frontL (l := [_, _, _, _, _, _, _]) H80
    simp only [Zca, Zna] at H81
    refine Zc func15 (RestR rb Z hwZ hlZ w78 (St.rows (τ := zW rb Z) H81)) ?_
    rintro _ w82 ⟨kr, Z2, rfl, hPr, hQr, hlZ2, hX2⟩
    have H82 := hX2 _ _ _ _ H81
    simp only [zW, List.cons_append, List.nil_append] at H82
    have hpe2 := next_eq hPg hQg (hZY ▸ hPr) hQr
    refine Zo ?_
    refine Z0j (s := 109) (v' := .bool false) rfl (by rw [hpe2.1]; simp) ?_
    refine Z01 (Z02 ?_)
    refine Zk [0, 2, 7, 9, 11, 12, 13, 109] ?_
    refine Z0Q rfl rfl ?_
    refine Z0a ?_
    refine Z0F ?_
    have H83 := St.frontL (l := [_, _, _, _, _, _, _]) H82
    simp only [Zca, Zna] at H83
    have H84 := St.frontL (l := [_, _, _, _, _, _, _, _]) H83
    simp only [Zca, Zna] at H84
    have H85 := St.frontL (l := [_, _, _, _]) H84
    simp only [Zca, Zna] at H85
    have H86 := St.frontL (l := [_, _, _, _]) H85
    simp only [Zca, Zna] at H86
    have H87 := St.frontL (l := [_, _, _, _]) H86
    simp only [Zca, Zna] at H87
    have H88 := St.frontL (l := [_, _, _, _, _, _, _, _]) H87
    simp only [Zca, Zna] at H88
    have H89 := St.frontL (l := [_, _, _, _, _, _, _, _]) H88
    simp only [Zca, Zna] at H89
    have H90 := St.frontL (l := [_, _, _, _, _, _, _, _]) H89
    simp only [Zca, Zna] at H90
    have H91 := St.frontL (l := [_, _, _, _, _, _, _, _]) H90
    simp only [Zca, Zna] at H91
    refine Z0w (lf, Y2, Z2) ?_ (.cons rfl (.cons rfl (.cons rfl (.cons rfl (.cons rfl (.cons rfl .nil)))))) ?_
    ·exact ⟨H91, ZO, hPg.wf hwY, hpe2.2, hlZ2⟩
    exact (.cons rfl ZN .nil)
   refine Z0a ?_
   refine Z0F ?_
   have H92 := St.frontL (l := [_, _, _, _, _, _, _, _]) H19
   simp only [Zca, Zna] at H92
   have H93 := St.frontL (l := [_, _, _, _, _, _, _, _]) H92
   simp only [Zca, Zna] at H93
   have H94 := St.frontL (l := [_, _, _, _, _, _, _, _]) H93
   simp only [Zca, Zna] at H94
   have H95 := St.frontL (l := [_, _, _, _, _, _, _, _]) H94
   simp only [Zca, Zna] at H95
   have H96 := St.frontL (l := [_, _, _, _, _, _, _, _]) H95
   simp only [Zca, Zna] at H96
   have H97 := St.frontL (l := [_, _, _, _, _, _, _, _]) H96
   simp only [Zca, Zna] at H97
   have H98 := St.frontL (l := [_, _, _, _, _, _, _, _]) H97
   simp only [Zca, Zna] at H98
   have H99 := St.frontL (l := [_, _, _, _, _, _, _, _]) H98
   simp only [Zca, Zna] at H99
   refine Z0w (lf, Y, Z) ?_ (.cons rfl (.cons rfl (.cons rfl (.cons rfl (.cons rfl (.cons rfl .nil)))))) ?_
   ·exact ⟨H99, hlf, hwY, hZY, hlZ⟩
   exact (.cons rfl ZN .nil)
  rintro ⟨lf2, Y2, Z2⟩ w100 ⟨H100, hlf2, hwY2, hZY2, hlZ2⟩
  show RunC P _ _ _ (_ :: _) _
  refine Z03 (Z00 (Zm ?_))
  refine Zm ?_
  refine Z1b H100 mem8 rfl rfl underlying36 rfl tz36 rfl (.take (.take (.take (.take .nil)))) ?_
  have H101 := St.frontL (l := [_, _, _, _, _, _]) H100
  simp only [Zca, Zna] at H101
  have H102 := St.frontL (l := [_, _, _, _, _, _]) H101
  simp only [Zca, Zna] at H102
  have H103 := St.frontL (l := [_, _, _, _, _, _]) H102
  simp only [Zca, Zna] at H103
  have H104 := St.frontL (l := [_, _, _, _, _, _]) H103
  simp only [Zca, Zna] at H104
  have H105 := St.frontL (l := [_, _, _, _, _, _]) H104
  simp only [Zca, Zna] at H105
  have H106 := St.frontL (l := [_, _, _, _, _, _]) H105
  simp only [Zca, Zna] at H106
  have H107 := St.frontL (l := [_, _, _, _, _, _]) H106
  simp only [Zca, Zna] at H107
  refine Zc func16 (looksL gb Y2 hwY2 rb Z2 hZY2 dd n kk pv hpv w100 (St.rows (τ := gW gb Y2) H107) (zfG (τ := gW gb Y2) H107)) ?_
  rintro _ w108 ⟨rfl, hX2⟩
  have H108 := hX2 _ _ _ _ H107
  simp only [gW, List.cons_append, List.nil_append] at H108
  first | refine Z38 rfl rfl rfl ?_ | refine Z3v rfl rfl rfl ?_
  refine Z0j (s := 114) (v' := .bool false) rfl (by rfl) ?_
  refine Z01 (Z02 ?_)
  refine Zk [0, 2, 7, 9, 11, 12, 114] ?_
  refine Z0Q rfl rfl ?_
  refine Z0a ?_
  refine Z0F ?_
  refine Z02 ?_
  refine Zk [0, 2, 7, 9, 11, 12] ?_
  refine Z00 (Zm ?_)
  refine Z0y rfl rfl rfl rfl (Z0l ZO) ?_
  refine Zg (Z01 ?_)
  have H109 := St.del (.tail (.tail (.tail (.tail (.tail (.tail (.tail (.tail .head)))))))) H108
  refine Z0p (i := (i, lf, Y, Z)) (i + 1, lf2, Y2, Z2) ?_ ?_ (.cons rfl (.cons rfl (.cons rfl (.cons rfl .nil)))) ?_
  ·first | omega | (simp; omega)
  ·exact ⟨H109, ZO, ZO, hlf2, hwY2, hZY2, hlZ2⟩
  exact (.cons rfl ZN (.cons rfl ZN .nil))
 refine Z0H ?_
 refine Z06 ?_
 refine Z06 ?_
 refine Z0h ?_
 refine Z02 ?_
 refine Zk [0, 7, 9] ?_
 refine Z03 (Z03 (Z00 ?_))
 have hwZ : Wf Z.abs := by rw [hZY]; exact hwY
 refine Zg (Z01 (Z02 (Z0d ?_)))
 refine Z0z (ι := Int) (fun (q : Int) => ((vs2.length : Int) + 1 - q).toNat) (fun (q : Int) (w' : World) => St w w.heap.size Z0J (gW gb Y ++ (zW rb Z ++ [A0])) w' ∧ -1 ≤ q ∧ q ≤ (vs2.length : Int) + 1) (fun (q : Int) => [(15, .int .i64 q)]) [0, 7, 9] (-1) ?_ (.cons rfl (.cons rfl (.cons rfl .nil))) ?_ ?_
 ·exact ⟨H17, ZO⟩
 ·exact (.cons rfl ZN .nil)
 rintro q w110 ⟨H110, hq1, hq2⟩
 show RunC P _ _ _ (_ :: _) _
 simp only [gW, zW, List.cons_append, List.nil_append] at H110
 refine Z03 (Z03 (Z00 (Zm ?_)))
 refine Zm ?_
 refine Z3L rfl rfl underlying22 rfl (hF2.arg H110 mem7).1 ?_
 refine Zf ?_
 refine Z01 (Z02 ?_)
 refine Zk [0, 7, 9, 15, 118] ?_
 (first | refine Z0c rfl ?_ ?_ | refine Z08 rfl ?_ ?_) <;> intro hc13
 ·refine Z0a (Z02 ?_)
  refine Zk [0, 7, 9, 15] ?_
  refine Z03 (Z0d (Z03 (Z00 ?_)))
  obtain ⟨lr, hlr, hlr64⟩ := readF_ex hwY q
  refine Zm ?_
  refine Zm ?_
  have H111 := St.frontL (l := [_, _, _]) H110
  simp only [Zca, Zna] at H111
  have H112 := St.frontL (l := [_, _, _]) H111
  simp only [Zca, Zna] at H112
  have H113 := St.frontL (l := [_, _, _]) H112
  simp only [Zca, Zna] at H113
  have H114 := St.frontL (l := [_, _, _]) H113
  simp only [Zca, Zna] at H114
  refine Zc func17 (HandG gb Y hwY q w110 (GF.of (σ := _) (b := gb) (X := Y) H114)) ?_
  rintro _ w115 ⟨rfl, hG⟩
  have H115 := hG _ _ _ _ H114
  simp only [Zca, Zna] at H115
  refine Zm ?_
  refine Zm ?_
  refine Zc func18 (SeeR rb Z hwZ q w115 (GDF.mem (rb := rb) (Z := Z) H115 mem4 mem5 mem6)) ?_
  rintro _ w116 ⟨rfl, hG⟩
  have H116 := hG _ _ _ _ H115
  simp only [Zca, Zna] at H116
  refine l_neqA rfl rfl fl44 rfl rfl (.int rfl rfl (.int rfl rfl (.int rfl rfl .nil))) ?_
  refine Z0j (s := 127) (v' := .bool false) rfl (by rw [hZY]; simp) ?_
  refine Zm ?_
  refine Zm ?_
  refine Zm ?_
  have H117 := St.frontL (l := [_, _, _]) H116
  simp only [Zca, Zna] at H117
  have H118 := St.frontL (l := [_, _, _]) H117
  simp only [Zca, Zna] at H118
  have H119 := St.frontL (l := [_, _, _]) H118
  simp only [Zca, Zna] at H119
  have H120 := St.frontL (l := [_, _, _]) H119
  simp only [Zca, Zna] at H120
  refine Zc func20 (ReadG gb Y hwY q w116 (GF.of (σ := _) (b := gb) (X := Y) H120)) ?_
  rintro ra w121 ⟨_, rfl, hG⟩
  have H121 := hG _ _ _ _ H120
  simp only [Zca, Zna] at H121
  refine Zm ?_
  refine Zm ?_
  refine Z13 rfl rfl func21 rfl rfl (.cons rfl (.cons rfl .nil)) (ReadR rb Z hwZ q _ (GDF.mem (rb := rb) (Z := Z) H121 mem5 mem6 mem7)) ?_
  refine Z0I rfl rfl func19 rfl rfl (.cons rfl (.cons rfl .nil)) (widesL ra (readV Z q) lr ZO w121 (by rw [← hlr]; exact Own.ik (Z27 _ _) (H121.ok mem0)) (by rw [← hlr, ← hZY]; exact Z4t (GDF.mem (rb := rb) (Z := Z) H121 mem5 mem6 mem7) q)) ?_
  rintro _ w122 ⟨rfl, hG⟩
  have H122 := hG _ _ _ _ H121
  simp only [Zca, Zna] at H122
  first | refine Z38 rfl rfl rfl ?_ | refine Z3v rfl rfl rfl ?_
  refine Z0j (s := 136) (v' := .bool false) rfl (by rfl) ?_
  refine Z0Z rfl rfl rfl rfl ?_
  refine Z01 (Z02 ?_)
  refine Zk [0, 7, 9, 15, 137] ?_
  refine Z0Q rfl rfl ?_
  refine Z0a ?_
  refine Z0F ?_
  refine Z02 ?_
  refine Zk [0, 7, 9, 15] ?_
  refine Z00 ?_
  have H123 := St.frontL (l := [_, _, _, _, _, _, _, _]) H122
  simp only [Zca, Zna] at H123
  have H124 := St.frontL (l := [_, _, _, _, _, _, _, _]) H123
  simp only [Zca, Zna] at H124
  have H125 := St.frontL (l := [_, _, _, _, _, _, _, _]) H124
  simp only [Zca, Zna] at H125
  have H126 := St.frontL (l := [_, _, _, _, _, _, _, _]) H125
  simp only [Zca, Zna] at H126
  have H127 := St.frontL (l := [_, _, _, _, _, _, _, _]) H126
  simp only [Zca, Zna] at H127
  have H128 := St.frontL (l := [_, _, _, _, _, _, _, _]) H127
  simp only [Zca, Zna] at H128
  have H129 := St.frontL (l := [_, _, _, _, _, _, _, _]) H128
  simp only [Zca, Zna] at H129
  have H130 := St.frontL (l := [_, _, _, _, _, _, _, _]) H129
  simp only [Zca, Zna] at H130
  refine Zm ?_
  refine Z0y rfl rfl rfl rfl (Z0l ZO) ?_
  refine Zg (Z01 ?_)
  have H131 := St.del (.tail (.tail (.tail (.tail (.tail (.tail (.tail (.tail .head)))))))) H130
  refine Z0p (i := (q)) (q + 1) ?_ ?_ (.cons rfl (.cons rfl (.cons rfl .nil))) ?_
  ·first | omega | (simp; omega)
  ·exact ⟨H131, ZO⟩
  exact (.cons rfl ZN .nil)
 refine Z0H ?_
 refine Z06 ?_
 refine Z06 ?_
 refine Z0h ?_
 refine Z02 ?_
 refine Zk [7, 9] ?_
 refine Z03 (Z03 (Z00 (Zg (Z01 (Z02 (Z0d ?_))))))
 refine Z0z (ι := Int) (fun (s : Int) => (42 - s).toNat) (fun (s : Int) (w' : World) => St w w.heap.size Z0J (gW gb Y ++ (zW rb Z ++ [A0])) w' ∧ -1 ≤ s ∧ s ≤ 42) (fun (s : Int) => [(16, .int .i64 s)]) [7, 9] (-1) ?_ (.cons rfl (.cons rfl .nil)) ?_ ?_
 ·exact ⟨H110, ZO⟩
 ·exact (.cons rfl ZN .nil)
 rintro s w132 ⟨H132, hs1, hs2⟩
 show RunC P _ _ _ (_ :: _) _
 simp only [gW, zW, List.cons_append, List.nil_append] at H132
 refine Z03 (Z03 (Z00 (Zm ?_)))
 refine Zf ?_
 refine Z01 (Z02 ?_)
 refine Zk [7, 9, 16, 139] ?_
 (first | refine Z0c rfl ?_ ?_ | refine Z08 rfl ?_ ?_) <;> intro hc15
 ·refine Z0a (Z02 ?_)
  refine Zk [7, 9, 16] ?_
  refine Z03 (Z0d (Z03 (Z00 (Zm ?_))))
  refine Zm ?_
  refine Zm ?_
  refine Z16 rfl rfl pl36 ta36 (.one rfl rfl ZR (.succ .zero) (.one rfl rfl ZR (.succ (.succ (.succ .zero))) .nil)) ?_
  have H133 := St.frontL (l := [_, _, _, _, _, _]) H132
  simp only [Zca, Zna] at H133
  have H134 := St.frontL (l := [_, _, _, _, _, _]) H133
  simp only [Zca, Zna] at H134
  have H135 := St.frontL (l := [_, _, _, _, _, _]) H134
  simp only [Zca, Zna] at H135
  have H136 := St.frontL (l := [_, _, _, _, _, _]) H135
  simp only [Zca, Zna] at H136
  have H137 := St.frontL (l := [_, _, _, _, _, _]) H136
  simp only [Zca, Zna] at H137
  have H138 := St.frontL (l := [_, _, _, _, _, _]) H137
  simp only [Zca, Zna] at H138
  have H139 := St.frontL (l := [_, _, _, _, _, _]) H138
  simp only [Zca, Zna] at H139
  refine Zc func16 (looksL gb Y hwY rb Z hZY 0 s 8 nilV rfl w132 (St.rows (τ := gW gb Y) H139) (zfG (τ := gW gb Y) H139)) ?_
  rintro _ w140 ⟨rfl, hX2⟩
  have H140 := hX2 _ _ _ _ H139
  simp only [gW, List.cons_append, List.nil_append] at H140
  first | refine Z38 rfl rfl rfl ?_ | refine Z3v rfl rfl rfl ?_
  refine Z0j (s := 147) (v' := .bool false) rfl (by rfl) ?_
  refine Z01 (Z02 ?_)
  refine Zk [7, 9, 16, 147] ?_
  refine Z0Q rfl rfl ?_
  refine Z0a ?_
  refine Z0F ?_
  refine Z02 ?_
  refine Zk [7, 9, 16] ?_
  refine Z00 (Zm ?_)
  refine Z0y rfl rfl rfl rfl (Z0l ZO) ?_
  refine Zg (Z01 ?_)
  refine Z0p (i := (s)) (s + 1) ?_ ?_ (.cons rfl (.cons rfl .nil)) ?_
  ·first | omega | (simp; omega)
  ·exact ⟨H140, ZO⟩
  exact (.cons rfl ZN .nil)
 refine Z0H ?_
 refine Z06 ?_
 refine Z06 ?_
 refine Z0h ?_
 refine Z02 ?_
 refine Zk [7, 9] ?_
 refine Z03 (Z00 (Zm ?_))
 have H141 := St.frontL (l := [_, _, _]) H132
 simp only [Zca, Zna] at H141
 have H142 := St.frontL (l := [_, _, _]) H141
 simp only [Zca, Zna] at H142
 have H143 := St.frontL (l := [_, _, _]) H142
 simp only [Zca, Zna] at H143
 have H144 := St.frontL (l := [_, _, _]) H143
 simp only [Zca, Zna] at H144
 refine Zc func23 (MovesG gb Y hwY w132 (St.rows (τ := gW gb Y) H144)) ?_
 rintro mv w145 ⟨_, rfl, hX2⟩
 have H145 := hX2 _ _ _ _ H144
 simp only [gW, List.cons_append, List.nil_append] at H145
 refine Zm ?_
 refine Zc func24 (MovesR rb Z hwZ w145 (GDF.mem (rb := rb) (Z := Z) H145 mem5 mem6 mem7)) ?_
 rintro mz w146 ⟨_, rfl, hG⟩
 have H146 := hG _ _ _ _ H145
 simp only [Zca, Zna] at H146
 refine Zc func22 (movesL mv mz (Z0A Y.abs) (by have := Nat.le_trans (Z2W Y.abs Y.abs.hs.length) hwY.n16; show (Z1r Y.abs Y.abs.hs.length).length ≤ 100000; omega) w146 (Own.ik (Z0U _) (H146.ok mem5)) (by rw [← hZY]; exact Own.ik (Z0U _) (H146.ok mem0))) ?_
 rintro _ w147 ⟨rfl, hG⟩
 have H147 := hG _ _ _ _ H146
 simp only [Zca, Zna] at H147
 refine Z0j (s := 152) (v' := .bool true) rfl (by rfl) ?_
 refine Zm ?_
 refine Zm ?_
 have H148 := St.frontL (l := [_, _, _, _]) H147
 simp only [Zca, Zna] at H148
 have H149 := St.frontL (l := [_, _, _, _]) H148
 simp only [Zca, Zna] at H149
 have H150 := St.frontL (l := [_, _, _, _]) H149
 simp only [Zca, Zna] at H150
 have H151 := St.frontL (l := [_, _, _, _]) H150
 simp only [Zca, Zna] at H151
 refine Zc func25 (Z4h gb Y hwY w147 (GF.of (σ := _) (b := gb) (X := Y) H151)) ?_
 rintro _ w152 ⟨rfl, hG⟩
 have H152 := hG _ _ _ _ H151
 simp only [Zca, Zna] at H152
 refine Zm ?_
 refine Zc func26 (Z4s rb Z hwZ w152 (GDF.mem (rb := rb) (Z := Z) H152 mem6 mem7 mem8)) ?_
 rintro _ w153 ⟨rfl, hG⟩
 have H153 := hG _ _ _ _ H152
 simp only [Zca, Zna] at H153
 refine Z3t underlying4 rfl rfl rfl rfl ?_
 refine Z0j (s := 158) (v' := .bool true) rfl (by rw [hZY]; simp) ?_
 refine Z1l rfl rfl rfl rfl ?_
 refine Zg (Z01 (Z02 ?_))
 refine Zk [6] ?_
 refine Z0i ?_
 refine Z0e results3 rfl ?_
 refine ⟨_, rfl, ?_⟩
 have H163 := St.del .head (St.del (.tail .head) (St.del (.tail (.tail .head)) (St.del (.tail (.tail (.tail .head))) (St.del (.tail (.tail (.tail (.tail .head)))) (St.del (.tail (.tail (.tail (.tail (.tail .head))))) (St.del (.tail (.tail (.tail (.tail (.tail (.tail .head)))))) (St.del (.tail (.tail (.tail (.tail (.tail (.tail (.tail .head))))))) (St.del (.tail (.tail (.tail (.tail (.tail (.tail (.tail (.tail .head)))))))) (St.del (.tail (.tail (.tail (.tail (.tail (.tail (.tail (.tail (.tail .head))))))))) H153)))))))))
 exact ⟨rfl, H163.grows⟩
theorem gateExactL (v : Value) (vs : List Value) (ls : List (List Int)) (hvl : vs.length = ls.length) (hrg : ∀ l ∈ ls, Rg (-9223372036854775808) 9223372036854775807 l) (may : Bool) (sv : Value) (rs : List (List Value)) (w : World) (hv : IV w v vs) (hvs : ∀ (j : Nat) (x : Value) (l : List Int), vs[j]? = some x → ls[j]? = some l → IV w x (ints .i64 l)) (hsv : IK w 4 sv rs) (hrs : ∀ r ∈ rs, OpOk w r) : Z0f P 3 [v, .bool may, sv] w fun r w' => r = .bool true ∧ Grow w w' [] := by
 rcases Classical.em (okA (Z3Y may ls)) with h | h
 ·exact gateExactOk v vs ls hvl hrg may sv rs h w hv hvs hsv hrs
 exact gateExactBad v vs ls hvl hrg may sv rs h w hv hvs hsv hrs
end Go.Proofs.YtgfkagaacdblbaaGreat.W
