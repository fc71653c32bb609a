/- the law's asks -/
import Derived.Test.YtgfkagaacdblbaaGreatYp
set_option linter.unusedVariables false
set_option linter.unusedSimpArgs false
set_option maxRecDepth 10000
namespace Go.Proofs.YtgfkagaacdblbaaGreat.W
open Go.Vc Go.RowKit Tryz
theorem tmod_bd {a w : Int} (h : 0 < w) : -w < a.tmod w ∧ a.tmod w < w := by
 by_cases h0 : 0 ≤ a
 ·rw [Int.tmod_eq_emod_of_nonneg h0]
  have := Int.emod_nonneg a (show w ≠ 0 by omega)
  have := Int.emod_lt_of_pos a h
  omega
 have e := Int.neg_tmod (a := a) (b := w)
 rw [Int.tmod_eq_emod_of_nonneg (show 0 ≤ -a by omega)] at e
 have := Int.emod_nonneg (-a) (show w ≠ 0 by omega)
 have := Int.emod_lt_of_pos (-a) h
 omega
def witF (n lo hi : Int) : Int := if n.tmod (hi - lo + 1) < 0 then lo + (n.tmod (hi - lo + 1) + (hi - lo + 1)) else lo + n.tmod (hi - lo + 1)
theorem witF_bd {n lo hi : Int} (h : lo ≤ hi) : lo ≤ witF n lo hi ∧ witF n lo hi ≤ hi := by
 have := tmod_bd (a := n) (w := hi - lo + 1) ZO
 unfold witF
 split <;> omega
abbrev eQ (x : Int) : Int := witF x (-342) 308
theorem eQ_in (x : Int) : -342 ≤ eQ x ∧ eQ x ≤ 308 := witF_bd (by omega)
theorem take_snoc' {l : List Int} {i : Nat} (h : i < l.length) : l.take (i + 1) = l.take i ++ [l.getD i 0] := by
 rw [List.take_add_one, List.getD_eq_getElem?_getD, List.getElem?_eq_getElem h]
 rfl
theorem map_snoc {l : List Int} {i : Nat} (h : i < l.length) (f : Int → Int) : (l.take (i + 1)).map f = (l.take i).map f ++ [f (l.getD i 0)] := by
 rw [take_snoc' h, List.map_append]
 rfl
def askR (l : List Int) : List Int := (l.take 12).map eQ
def asksF (ls : List (List Int)) : List (List Int) := (ls.take 16).map askR
theorem askR_ok (l : List Int) : okR (askR l) := by
 refine ⟨by simp [askR]; omega, fun q hq => ?_⟩
 obtain ⟨x, _, rfl⟩ := List.mem_map.1 hq
 exact eQ_in x
theorem asksF_ok (ls : List (List Int)) : okA (asksF ls) := by
 refine ⟨by simp [asksF]; omega, fun l hl => ?_⟩
 obtain ⟨x, _, rfl⟩ := List.mem_map.1 hl
 exact askR_ok x
theorem withinW (n lo hi : Int) (hn : -9223372036854775808 ≤ n ∧ n ≤ 9223372036854775807) (hlo : lo ≤ hi ∧ hi ≤ 1000000 ∧ -1000000 ≤ lo) (w : World) :
  Z0f P 9 [.int .i64 n, .int .i64 lo, .int .i64 hi] w fun r w' => r = .int .i64 (witF n lo hi) ∧ w = w' := by
 refine Z0o func9 rfl ntmps9 rfl ?_
 have htm := tmod_bd (a := n) (w := hi - lo + 1) ZO
 refine Z03 (Z00 (Zg (Z01 (Z02 ?_))))
 refine Zk [0, 1, 2] ?_
 refine Z03 (Z00 (Zm (Zm ?_)))
 refine Z0W rfl rfl rfl rfl (Z0l ZO) ?_
 refine Z0y rfl rfl rfl rfl (Z0l ZO) ?_
 refine Zg (Z01 (Z02 ?_))
 refine Zk [0, 1, 7] ?_
 refine Z03 (Z00 (Zm (Zm ?_)))
 refine Z2e rfl rfl rfl rfl ZO (rfl) ?_
 refine Zg (Z01 (Z02 ?_))
 refine Zk [0, 1, 7] ?_
 refine Z03 (Z03 (Z00 (Zm ?_)))
 refine Zl ?_
 refine Z01 (Z02 ?_)
 refine Zk [0, 1, 7, 16] ?_
 (first | refine Z0c rfl ?_ ?_ | refine Z08 rfl ?_ ?_) <;> intro hc0
 ·refine Z00 (Zm (Zm ?_))
  refine Z0y rfl rfl rfl rfl (Z0l ZO) ?_
  refine Zg (Z01 (Z02 ?_))
  refine Zk [0, 1] ?_
  refine Z03 (Z00 (Zm (Zm ?_)))
  refine Z0y rfl rfl rfl rfl (Z0l ZO) ?_
  refine Zg (Z01 (Z02 ?_))
  refine Zk [6] ?_
  refine Z0i ?_
  refine Z0e results9 rfl ?_
  refine ⟨_, rfl, ?_⟩
  exact ⟨congrArg (Value.int .i64) (by unfold witF; rw [if_pos hc0]), rfl⟩
 refine Z0a (Z02 ?_)
 refine Zk [0, 1] ?_
 refine Z03 (Z00 (Zm (Zm ?_)))
 refine Z0y rfl rfl rfl rfl (Z0l ZO) ?_
 refine Zg (Z01 (Z02 ?_))
 refine Zk [6] ?_
 refine Z0i ?_
 refine Z0e results9 rfl ?_
 refine ⟨_, rfl, ?_⟩
 exact ⟨congrArg (Value.int .i64) (by unfold witF; rw [if_neg hc0]), rfl⟩
theorem AsksL (v : Value) (vs : List Value) (ls : List (List Int)) (hvl : vs.length = ls.length) (hrg : ∀ l ∈ ls, Rg (-9223372036854775808) 9223372036854775807 l) (w : World) (hv : IV w v vs) (hvs : ∀ (j : Nat) (x : Value) (l : List Int), vs[j]? = some x → ls[j]? = some l → IV w x (ints .i64 l)) :
  Z0f P 4 [v] w fun r w' => ∃ (vo : Value) (xs : List (Value × List Int)), r = vo ∧ xs.map Prod.snd = asksF ls ∧ Grow w w' [As.ro 34 vo (xs.map Prod.fst), As.sep (xs.map (fun p : Value × List Int => As.ri 3 .i64 p.1 p.2))] := by
 refine Z0o func4 rfl ntmps4 rfl ?_
 have H0 := St.start w
 refine Z03 (Z00 (Zg (Z01 (Z02 ?_))))
 refine Zk [0] ?_
 refine Z03 (Z00 (Zg (Z01 (Z02 (Z03 (Z03 (Z00 (Zg (Z01 (Z02 (Z0d ?_)))))))))))
 refine Z0z (ι := Nat × Value × List (Value × List Int)) (fun (z0 : Nat × Value × List (Value × List Int)) => match z0 with | ⟨i, vo, xs⟩ => vs.length - i) (fun (z0 : Nat × Value × List (Value × List Int)) (w' : World) => match z0 with | ⟨i, vo, xs⟩ => St w w.heap.size Z0J ([As.ro 34 vo (xs.map Prod.fst), As.sep (xs.map (fun p : Value × List Int => As.ri 3 .i64 p.1 p.2))]) w' ∧ i ≤ vs.length ∧ i ≤ 16 ∧ xs.map Prod.snd = (ls.take i).map askR) (fun (z0 : Nat × Value × List (Value × List Int)) => match z0 with | ⟨i, vo, xs⟩ => [(3, vo), (4, .int .i64 (i : Int))]) [0] (0, .slice none 0 0, []) ?_ (.cons rfl .nil) ?_ ?_
 ·exact ⟨St.front1 (Z2P (St.nil H0 34)), ZO, ZO, rfl⟩
 ·exact (.cons rfl ZN (.cons rfl ZN .nil))
 rintro ⟨i, vo, xs⟩ w1 ⟨H1, hi, hi16, hxs⟩
 show RunC P _ _ _ (_ :: _) _
 refine Z03 (Z03 (Z00 (Zm (Zm ?_))))
 refine Z3L rfl rfl underlying22 rfl (by first | exact H1.io mem0 | exact H1.iarg hv | assumption) ?_
 refine Zl ?_
 refine Zm ?_
 apply Z47 2 [0, 3, 4] rfl rfl (.cons rfl (.cons rfl (.cons rfl (.cons rfl .nil)))) rfl rfl (fun _ => rfl) rfl rfl rfl
 ·intro hg3_5
  refine Zm ?_
  refine Zl ?_
  refine Z01 ?_
  exact Z0O rfl (.cons rfl (ZT hg3_5) (.cons rfl rfl (.cons rfl rfl (.cons rfl rfl .nil))))
  all_goals infer_instance
 refine Z01 (Z02 ?_)
 refine Zk [0, 3, 4, 14] ?_
 (first | refine Z0c rfl ?_ ?_ | refine Z08 rfl ?_ ?_) <;> intro hc0
 ·refine Z0a (Z02 ?_)
  refine Zk [0, 3, 4] ?_
  refine Z03 (Z0d (Z03 (Z00 ?_)))
  have hi1 : i < ls.length := by omega
  obtain ⟨x, hvj⟩ : ∃ x, vs[i]? = some x := ⟨_, List.getElem?_eq_getElem ZO⟩
  obtain ⟨l, hlj⟩ : ∃ l, ls[i]? = some l := ⟨_, List.getElem?_eq_getElem hi1⟩
  have hx := hvs i x l hvj hlj
  have hRg := hrg l (List.mem_of_getElem? hlj)
  refine Zg (Z01 (Z02 (Z03 (Z03 (Z00 (Zg (Z01 (Z02 (Z0d ?_)))))))))
  refine Z0z (ι := Nat × Value) (fun (z0 : Nat × Value) => match z0 with | ⟨k, va⟩ => l.length - k) (fun (z0 : Nat × Value) (w' : World) => match z0 with | ⟨k, va⟩ => St w w.heap.size Z0J ([As.ri 3 .i64 va ((l.take k).map eQ), As.ro 34 vo (xs.map Prod.fst), As.sep (xs.map (fun p : Value × List Int => As.ri 3 .i64 p.1 p.2))]) w' ∧ k ≤ l.length ∧ k ≤ 12) (fun (z0 : Nat × Value) => match z0 with | ⟨k, va⟩ => [(5, va), (6, .int .i64 (k : Int))]) [0, 3, 4] (0, .slice none 0 0) ?_ (.cons rfl (.cons rfl (.cons rfl .nil))) ?_ ?_
  ·exact ⟨St.nil H1 3, ZO, ZO⟩
  ·exact (.cons rfl ZN (.cons rfl ZN .nil))
  rintro ⟨k, va⟩ w2 ⟨H2, hk, hk12⟩
  show RunC P _ _ _ (_ :: _) _
  refine Z03 (Z03 (Z00 (Zm (Zm (Zm ?_)))))
  refine Z4k rfl rfl rfl rfl underlying22 tz34 underlying34 rfl rfl rfl (by first | exact H2.io mem0 | exact H2.io mem1 | exact H2.iarg hv | assumption) ZI hvj ?_ rfl
  refine Z0u rfl rfl underlying34 rfl (H2.iarg hx) ?_
  refine Zl ?_
  refine Zm ?_
  apply Z47 2 [0, 3, 4, 5, 6] rfl rfl (.cons rfl (.cons rfl (.cons rfl (.cons rfl (.cons rfl (.cons rfl .nil)))))) rfl rfl (fun _ => rfl) rfl rfl rfl
  ·intro hg7_8
   refine Zm ?_
   refine Zl ?_
   refine Z01 ?_
   exact Z0O rfl (.cons rfl (ZT hg7_8) (.cons rfl rfl (.cons rfl rfl (.cons rfl rfl (.cons rfl rfl (.cons rfl rfl .nil))))))
   all_goals infer_instance
  refine Z01 (Z02 ?_)
  refine Zk [0, 3, 4, 5, 6, 27] ?_
  (first | refine Z0c rfl ?_ ?_ | refine Z08 rfl ?_ ?_) <;> intro hc1
  ·refine Z0a (Z02 ?_)
   refine Zk [0, 3, 4, 5, 6] ?_
   refine Z03 (Z0d (Z00 (Zm (Zm (Zm ?_)))))
   refine Z4k rfl rfl rfl rfl underlying22 tz34 underlying34 rfl rfl rfl (by first | exact H2.io mem0 | exact H2.io mem1 | exact H2.iarg hv | assumption) ZI hvj ?_ rfl
   refine Zm ?_
   refine Z0T (j := k) rfl rfl rfl rfl underlying34 tz3 underlying3 rfl rfl (H2.iarg hx) hRg rfl rfl ZI (fun hb9 => ?_)
   have hq0 := hRg.get (j := k) ZO
   have hkl : k < l.length := by omega
   refine Zp func9 (withinW (l.getD k 0) (-342) 308 hq0 ZO _) ?_
   refine Z2g H2 rfl rfl underlying34 ti3 rfl (.cons rfl ZR .nil) rfl rfl rfl (fun b9_9 w3 H3 => ?_)
   refine Z46 H3 rfl rfl underlying34 ti3 rfl rfl rfl rfl (by first | (simp [Value.oneCell']; done) | (intro u hu; rw [List.mem_singleton.1 hu]; assumption)) (by first | (simp; done) | (simp; omega)) (by first | (simp; done) | (simp; omega)) (fun v9_10 w4 H4 => ?_)
   refine Zg (Z01 ?_)
   refine Z0F ?_
   refine Z02 ?_
   refine Zk [0, 3, 4, 5, 6] ?_
   refine Z00 (Zm ?_)
   refine Z0y rfl rfl rfl rfl (Z0l ZO) ?_
   refine Zg (Z01 ?_)
   refine Z0p (i := (k, va)) (k + 1, v9_10) ?_ ?_ (.cons rfl (.cons rfl (.cons rfl .nil))) ?_
   ·first | omega | (simp; omega)
   ·exact ⟨H4.cast (by rw [map_snoc hkl]; simp [As.ri, ints]), ZO, ZO⟩
   exact (.cons rfl ZN (.cons rfl ZN .nil))
  refine Z0H ?_
  refine Z06 ?_
  refine Z06 ?_
  refine Z0h ?_
  refine Z02 ?_
  refine Zk [0, 3, 4, 5] ?_
  refine Z00 (Zm (Zm ?_))
  have hva := Z4x (H2.ok mem0)
  have hxl : xs.length ≤ 16 := by have := congrArg List.length hxs; simp at this; omega
  have hka : (l.take k).map eQ = askR l := by unfold askR; rw [List.take_eq_take_iff.2 (show min k l.length = min 12 l.length by omega)]
  refine Z2g H2 rfl rfl underlying22 ti34 rfl (.cons rfl ZR .nil) rfl rfl rfl (fun b10_2 w5 H5 => ?_)
  have H6 := St.frontL (l := [_, _]) H5
  simp only [Zca, Zna] at H6
  have H7 := St.frontL (l := [_]) H6
  simp only [Zca, Zna] at H7
  refine Z46 H7 rfl rfl underlying22 ti34 rfl rfl rfl rfl (by first | (simp [Value.oneCell']; done) | (intro u hu; rw [List.mem_singleton.1 hu]; assumption)) (by first | (simp; done) | (simp; omega)) (by first | (simp; done) | (simp; omega)) (fun v10_3 w8 H8 => ?_)
  refine Zg (Z01 ?_)
  refine Z0F ?_
  refine Z02 ?_
  refine Zk [0, 3, 4] ?_
  refine Z00 ?_
  have H9 := St.frontL (l := [_, _]) H8
  simp only [Zca, Zna] at H9
  have H10 := St.frontL (l := [_, _]) H9
  simp only [Zca, Zna] at H10
  refine Zm ?_
  refine Z0y rfl rfl rfl rfl (Z0l ZO) ?_
  refine Zg (Z01 ?_)
  refine Z0p (i := (i, vo, xs)) (i + 1, v10_3, xs ++ [(va, askR l)]) ?_ ?_ (.cons rfl .nil) ?_
  ·first | omega | (simp; omega)
  ·refine ⟨(St.front1 (Z29 (l := [_]) (τ := (xs ++ [(va, askR l)]).map (fun p : Value × List Int => As.ri 3 .i64 p.1 p.2)) (by rw [List.map_append]; exact List.perm_append_comm) (H10.cast (by rw [hka]; rfl)))).cast (by simp only [List.map_append]; rfl), ZO, ZO, ?_⟩
   rw [List.map_append, List.take_add_one, hlj, List.map_append, hxs]
   rfl
  exact (.cons rfl ZN (.cons rfl ZN .nil))
 refine Z0H ?_
 refine Z06 ?_
 refine Z06 ?_
 refine Z0h ?_
 refine Z02 ?_
 refine Zk [3] ?_
 refine Z03 (Z00 (Zm (Zg (Z01 (Z02 ?_)))))
 refine Zk [2] ?_
 refine Z0i ?_
 refine Z0e results4 rfl ?_
 refine ⟨_, rfl, ?_⟩
 exact ⟨vo, xs, rfl, by rw [hxs]; unfold asksF; rw [List.take_eq_take_iff.2 (show min i ls.length = min 16 ls.length by omega)], H1.grows⟩
end Go.Proofs.YtgfkagaacdblbaaGreat.W
