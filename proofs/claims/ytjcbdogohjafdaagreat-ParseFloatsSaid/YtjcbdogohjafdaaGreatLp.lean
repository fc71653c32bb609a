/- walks of mintagekeep.Cut, Same, Lend, Back -/
import Derived.Test.YtjcbdogohjafdaaGreatFa
set_option linter.unusedVariables false
set_option linter.unusedSimpArgs false
set_option maxRecDepth 10000
namespace Go.Proofs.YtjcbdogohjafdaaGreat.W
open Go.Vc Go.RowKit Tryz
theorem cutK (v : Value) (l : List UInt8) (n : Nat) (w : World) (hv : IB w v l) :
  Z0g P 13 [v, .int .i64 (n : Int)] w fun r w' => IV w r (bys (l.take n)) ∧ w = w' := by
 refine Z0o func13 rfl ntmps13 rfl ?_
 refine Z03 (Z00 (Zg (Z02 (Z01 (Z03 (Z03 (Z00 ?_)))))))
 refine Zm ?_
 refine Z0I rfl rfl underlying26 rfl (by first | exact hv | assumption) ?_
 refine Zm ?_
 refine Zw ?_
 refine Z02 (Z01 ?_)
 (first | refine Z08 rfl ?_ ?_ | refine Z05 rfl ?_ ?_) <;> intro hc0
 ·refine Z03 (Z00 (Zm ?_))
  refine Zm ?_
  refine Z2O (l := 0) (h := n) rfl rfl underlying26 tz5 rfl rfl rfl rfl hv ZD ZD (.inl rfl) (by simp) ZO ZI (fun v2_2 h2_2 ho2_2 => ?_)
  have e2 : ((bys l).take n).drop 0 = bys (l.take n) := by simp [bys, List.map_take]
  rw [e2] at h2_2
  refine Zg (Z02 (Z01 ?_))
  refine Zk [4] ?_
  refine Z0f ?_
  refine Z06 ?_
  refine Z0l results13 rfl ?_
  refine ⟨_, rfl, ?_⟩
  exact ⟨h2_2, rfl⟩
 refine Z09 (Z01 (Z03 (Z00 (Zm ?_))))
 refine Zg (Z02 (Z01 ?_))
 refine Z0f ?_
 refine Z0l results13 rfl ?_
 refine ⟨_, rfl, ?_⟩
 exact ⟨by rw [List.take_of_length_le ZO]; exact hv, rfl⟩
theorem sameK (a b : Value) (la lb : List UInt8) (w : World) (ha : IB w a la) (hb : IB w b lb) :
  Z0g P 49 [a, b] w fun r w' => r = .bool (decide (la = lb)) ∧ w = w' := by
 refine Z0o func49 rfl ntmps49 rfl ?_
 refine Z03 (Z00 (Zg (Z02 (Z01 (Z03 (Z00 ?_))))))
 refine Zm ?_
 refine Z3l (l := la) rfl rfl underlying26 underlying5 underlying9 rfl (by first | exact ha | exact hb | assumption) ?_
 refine Zm ?_
 refine Z3l (l := lb) rfl rfl underlying26 underlying5 underlying9 rfl (by first | exact ha | exact hb | assumption) ?_
 refine Z2R rfl rfl rfl rfl ?_
 refine Zg (Z02 (Z01 ?_))
 refine Z0f ?_
 refine Z0l results49 rfl ?_
 refine ⟨_, rfl, ?_⟩
 exact ⟨rfl, rfl⟩
theorem lendB (v : Value) (l : List UInt8) (hL : l.length ≤ 1099511627776) (w : World) (hv : IB w v l) :
  Z0g P 14 [v] w fun r w' => ∃ A c, r = .slice A l.length c ∧ Grow w w' [As.rb 5 (.slice A (l.length + 2) c) (l ++ [165, 90])] := by
 refine Z0o func14 rfl ntmps14 rfl ?_
 have H0 := St.start w
 refine Z03 (Z00 (Zg (Z02 (Z01 (Z03 (Z00 ?_))))))
 refine Zm ?_
 refine Z0I rfl rfl underlying26 rfl (by first | exact H0.iarg hv | assumption) ?_
 refine Z0t rfl rfl rfl rfl (Z0h ZO) ?_
 refine Z34 (m := 0) (c := l.length + 2) H0 rfl rfl underlying26 ti5 rfl rfl rfl ZO ZO ZO ZO ZO (fun v1_3 w1 H1 => ?_)
 refine Zg (Z02 (Z01 (Z03 (Z00 ?_))))
 refine Zm ?_
 refine Zm ?_
 refine Z0S H1 rfl rfl underlying26 ti5 rfl rfl rfl (by first | exact H1.io mem0 | exact H1.iarg hv | assumption) (by first | exact Z10 _ _ | exact Z1f _ | simp [Value.oneCell']) (by first | (simp; done) | (simp; omega)) (by first | (simp; done) | (simp; omega)) (fun v2_2 w2 H2 => ?_)
 refine Zg (Z02 (Z01 ?_))
 refine Zk [0, 3] ?_
 refine Z03 (Z00 (Zm ?_))
 refine Z17 H2 rfl rfl underlying26 ti5 rfl (.cons rfl ZR (.cons rfl ZR .nil)) rfl rfl rfl (fun b3_1 w3 H3 => ?_)
 refine Z2d H3 rfl rfl underlying26 ti5 rfl rfl rfl rfl (by first | (simp [Value.oneCell']; done) | (intro u hu; rw [List.mem_singleton.1 hu]; assumption)) (by first | (simp; done) | (simp; omega)) (by first | (simp; done) | (simp; omega)) (fun v3_2 w4 H4 => ?_)
 refine Zg (Z02 (Z01 (Z03 (Z00 ?_))))
 refine Zm ?_
 refine Zm ?_
 refine Z0I rfl rfl underlying26 rfl (by first | exact H4.io mem0 | exact H4.iarg hv | assumption) ?_
 refine v_head (h := _) rfl rfl underlying26 tz5 rfl rfl (by first | exact H4.io mem0 | exact H4.iarg hv | assumption) ZP ZI (fun A4_3 c4_3 h4_3 => ?_)
 subst h4_3
 refine Zg (Z02 (Z01 ?_))
 refine Z0f ?_
 refine Z0l results14 rfl ?_
 refine ⟨_, rfl, ?_⟩
 have hcs : List.replicate 0 (Value.int IntKind.u8 0) ++ bys l ++ [Value.int IntKind.u8 165, Value.int IntKind.u8 90] = bys (l ++ [165, 90]) := by simp [bys]
 have hln : (bys (l ++ [165, 90])).length = l.length + 2 := by simp [bys]
 have h9 := H4
 rw [hcs, hln] at h9
 exact ⟨_, _, rfl, h9.grows⟩
theorem u8_add77 (c : UInt8) : ((c.toNat : Int) + 77) % 256 = ((c + 77).toNat : Int) := by
 rw [UInt8.toNat_add]
 show _ = (((c.toNat + 77) % 256 : Nat) : Int)
 omega
theorem headB_ok {A : Option Addr} {c : Nat} {l : List UInt8} {w : World} (h : (As.rb 5 (.slice A (l.length + 2) c) (l ++ [165, 90])).ok w) : IV w (.slice A l.length c) (bys l) := by
 obtain ⟨A', c', e, hc, hs⟩ := Own.iv h
 injection e with e1 e2 e3
 subst e1 e3
 have hc' : l.length + 2 ≤ c := by simpa [bys] using hc
 refine ⟨A, c, by simp [bys], by simp [bys]; omega, fun j v hj => hs j v ?_⟩
 have hj' : j < l.length := by simpa [bys] using (List.getElem?_eq_some_iff.1 hj).1
 rw [bys, List.map_append, List.getElem?_append_left (by simpa using hj')]
 exact hj
theorem someB_ok {A : Option Addr} {c : Nat} {l : List UInt8} {w : World} (h : (As.rb 5 (.slice A (l.length + 2) c) (l ++ [165, 90])).ok w) : ∃ ad, A = some ad := by
 obtain ⟨A', c', e, hc, hs⟩ := Own.iv h
 injection e with e1 e2 e3
 subst e1
 exact hs.some_ (by simp [bys])
theorem backB (ad : Addr) (c : Nat) (b : Value) (l : List UInt8) (hL : l.length ≤ 1099511627776) (w : World) (hok : (As.rb 5 (.slice (some ad) (l.length + 2) c) (l ++ [165, 90])).ok w) (hlt : ∀ k, (As.rb 5 (.slice (some ad) (l.length + 2) c) (l ++ [165, 90])).fp k → k < w.heap.size) (hb : ∀ w1 : World, (∀ k, k < w.heap.size → ¬ (As.rb 5 (.slice (some ad) (l.length + 2) c) (l ++ [165, 90])).fp k → w1.heap[k]? = w.heap[k]?) → IV w1 b (bys l)) :
  Z0g P 19 [.slice (some ad) l.length c, b] w fun r w' => r = .bool true ∧ ∃ lo, Turn w w' (As.rb 5 (.slice (some ad) (l.length + 2) c) (l ++ [165, 90])) (As.rb 5 (.slice (some ad) (l.length + 2) c) lo) := by
 refine Z0o func19 rfl ntmps19 rfl ?_
 have H0 := St.startM w hok hlt
 have hlx : (l ++ [165, 90]).length = l.length + 2 := by simp
 have hcap : l.length + 2 ≤ c := by
  obtain ⟨A', c', e, hc, _⟩ := H0.io mem0
  injection e with e1 e2 e3
  subst e3
  simpa [bys] using hc
 have hhd := headB_ok hok
 refine Z03 (Z00 (Zg (Z02 (Z01 (Z03 (Z03 (Z00 ?_)))))))
 refine Zm ?_
 refine Zm ?_
 refine Z0J rfl rfl func49 rfl rfl (.cons rfl (.cons rfl .nil)) (sameK _ _ l l w hhd (H0.ikM hb)) ?_
 refine Z0q (s := 9) (v' := .bool true) rfl (by rw [decide_eq_true rfl]) ?_
 first | refine Z1c rfl rfl rfl ?_ | refine Z1N rfl rfl rfl ?_
 refine Z0q (s := 10) (v' := .bool false) rfl (by rfl) ?_
 refine Z02 (Z01 ?_)
 refine Z1D rfl rfl ?_
 refine Z09 (Z01 ?_)
 refine Zk [0, 1] ?_
 refine Z03 (Z00 (Zm ?_))
 refine Zm ?_
 refine Z0I rfl rfl underlying26 rfl (by first | exact H0.io mem0 | exact H0.ikM hb | assumption) ?_
 refine Z0t rfl rfl rfl rfl (Z0h ZO) ?_
 refine Z28 (size := 1) (l := 0) (h := l.length + 2) (mm := c) rfl rfl underlying26 tz5 rfl rfl rfl rfl rfl rfl rfl (by simp) ZO hcap (Nat.le_refl _) ?_
 refine Z0q (s := 15) (v' := .slice (some ad) (l.length + 2) c) rfl (by simp [cutA0]) ?_
 refine Zg (Z02 (Z01 (Z03 (Z03 (Z00 ?_)))))
 refine Zm ?_
 refine Zm ?_
 refine Z0I rfl rfl underlying26 rfl (by first | exact H0.io mem0 | exact H0.ikM hb | assumption) ?_
 have hlb : (bys l).length = l.length := by simp [bys]
 refine Z0V (j := l.length) rfl rfl rfl rfl underlying26 tz5 underlying5 rfl rfl (by first | exact H0.io mem0 | exact H0.ikM hb | assumption) rfl ZO ZI (fun hb4_3 => ?_)
 refine Zo ?_
 refine Z0q (s := 21) (v' := .bool false) rfl (by simp [List.getD]) ?_
 refine Zm ?_
 refine Zm ?_
 refine Zm ?_
 refine Z0I rfl rfl underlying26 rfl (by first | exact H0.io mem0 | exact H0.ikM hb | assumption) ?_
 refine Z0t rfl rfl rfl rfl (Z0h ZO) ?_
 refine Z0V (j := l.length + 1) rfl rfl rfl rfl underlying26 tz5 underlying5 rfl rfl (by first | exact H0.io mem0 | exact H0.ikM hb | assumption) rfl ZO ZI (fun hb4_11 => ?_)
 refine Zo ?_
 refine Z0q (s := 29) (v' := .bool false) rfl (by simp [List.getD]) ?_
 refine Z1a rfl rfl rfl rfl ?_
 refine Z02 (Z01 ?_)
 refine Z1D rfl rfl ?_
 refine Z09 (Z01 ?_)
 refine Zk [0] ?_
 refine Z03 (Z03 (Z00 (Zg (Z02 (Z01 (Z0c ?_))))))
 refine Z0v (ι := Nat × List UInt8) (fun (z0 : Nat × List UInt8) => match z0 with | ⟨i, o⟩ => l.length - i) (fun (z0 : Nat × List UInt8) (w' : World) => match z0 with | ⟨i, o⟩ => St w w.heap.size (As.rb 5 (.slice (some ad) (l.length + 2) c) (l ++ [165, 90])).fp ([As.rb 5 (.slice (some ad) (l.length + 2) c) o]) w' ∧ i ≤ l.length ∧ o.length = l.length + 2) (fun (z0 : Nat × List UInt8) => match z0 with | ⟨i, o⟩ => [(6, .int .i64 (i : Int))]) [0] (0, l ++ [165, 90]) ?_ (.cons rfl .nil) ?_ ?_
 ·exact ⟨H0, ZO, hlx⟩
 ·exact (.cons rfl ZN .nil)
 rintro ⟨i, o⟩ w1 ⟨H1, hi, hol⟩
 show RunC P _ _ _ (_ :: _) _
 refine Z03 (Z03 (Z00 (Zm ?_)))
 refine Zm ?_
 refine Z0I rfl rfl underlying26 rfl (by first | exact H1.io mem0 | exact H1.ikM hb | assumption) ?_
 refine Zl ?_
 refine Z02 (Z01 ?_)
 (first | refine Z08 rfl ?_ ?_ | refine Z05 rfl ?_ ?_) <;> intro hc2
 ·refine Z09 (Z01 (Z03 (Z0c (Z00 (Zm ?_)))))
  refine Zm ?_
  refine Zm ?_
  refine Zm ?_
  refine Z1o (j := i) rfl rfl underlying26 tz5 rfl rfl rfl ZP ZI ?_
  refine Z3S rfl rfl underlying5 rfl rfl (by first | exact H1.io mem0 | exact H1.ikM hb | assumption) ZI (fun hb9_5 => ?_)
  refine Z0t rfl rfl rfl rfl (w_u8m _) ?_
  refine Z1o (j := i) rfl rfl underlying26 tz5 rfl rfl rfl ZP ZI ?_
  refine Z33 H1 .head rfl ZB rfl tz5 rfl rfl (u8_add77 _) ZI (fun w2 H2 => ?_)
  refine Z02 ?_
  refine Z0z ?_
  refine Z01 ?_
  refine Zk [0, 6] ?_
  refine Z00 (Zm ?_)
  refine Z0t rfl rfl rfl rfl (Z0h ZO) ?_
  refine Zg (Z02 ?_)
  refine Z0j (i := (i, o)) (i + 1, o.set i (o.getD i 0 + 77)) ?_ ?_ (.cons rfl .nil) ?_
  ·first | omega | (simp; omega)
  ·exact ⟨H2, ZO, by simpa using hol⟩
  exact (.cons rfl ZN .nil)
 refine Z0y ?_
 refine Z04 ?_
 refine Z04 ?_
 refine Z0d ?_
 refine Z01 (Z03 (Z00 (Zg (Z02 (Z01 ?_)))))
 refine Z0f ?_
 refine Z0l results19 rfl ?_
 refine ⟨_, rfl, ?_⟩
 exact ⟨rfl, _, H1.turns (fun k hk => .inl hk)⟩
end Go.Proofs.YtjcbdogohjafdaaGreat.W
