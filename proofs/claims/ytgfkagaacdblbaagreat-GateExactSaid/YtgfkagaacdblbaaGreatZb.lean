/- the law GateOnce -/
import Derived.Test.YtgfkagaacdblbaaGreatZa
set_option linter.unusedVariables false
set_option linter.unusedSimpArgs false
set_option maxRecDepth 10000
namespace Go.Proofs.YtgfkagaacdblbaaGreat.W
open Go.Vc Go.RowKit Tryz
theorem done_step {G : GW} {i : Nat} (hw : Wf G) (hm : mayG G i = true) {s : Nat} (hd : (sgN G s).done = true) : (sgN (Z1S G i) s).done = true := by
 obtain ⟨h, h', y', hi, hih, hv, e⟩ := Z3D hm
 rw [e]
 have hsl : Z0x h < G.sg.length := by rw [hw.sg]; exact (Z1G h).2
 show ((G.sg.set (Z0x h) y').getD s ⟨0, 0, false⟩).done = true
 rw [Z4C hsl]
 split
 ·rename_i es
  have hd2 : (sgN G (Z0x h)).done = true := by rw [← es]; exact hd
  cases hv <;> first | exact hd2 | rfl | simp_all
 exact hd
def DoneF (G : GW) (F : List Bool) : Prop := F.length = 41 ∧ ∀ t, t < 41 → F.getD t false = true → (sgF G (t : Int)).done = true
theorem DoneF.zero (G : GW) : DoneF G (List.replicate 41 false) := by
 refine ⟨by simp, fun t ht h => ?_⟩
 have e : (List.replicate 41 false).getD t false = false := by
  rw [List.getD_eq_getElem?_getD, List.getElem?_replicate, if_pos ht]
  rfl
 rw [e] at h
 cases h
theorem DoneF.set {G : GW} {F : List Bool} (h : DoneF G F) {s : Nat} : DoneF G (F.set s (sgF G (s : Int)).done) := by
 refine ⟨by simpa using h.1, fun t ht => ?_⟩
 by_cases e : t = s
 ·subst e
  rw [List.getD_eq_getElem?_getD, List.getElem?_set_self (by have := h.1; omega)]
  exact id
 rw [List.getD_eq_getElem?_getD, List.getElem?_set_ne (fun h => e h.symm), ← List.getD_eq_getElem?_getD]
 exact h.2 t ht
theorem DoneF.step {G : GW} {F : List Bool} {i : Nat} (hw : Wf G) (hm : mayG G i = true) (h : DoneF G F) : DoneF (Z1S G i) F :=
 ⟨h.1, fun t ht hF => by
  have := h.2 t ht hF
  rw [sgF_nat ht] at this ⊢
  exact done_step hw hm this⟩
theorem whichR (p n : Int) (hp : -9223372036854775808 ≤ p ∧ p ≤ 9223372036854775807) (hn : 0 < n ∧ n ≤ 100000) (w : World) :
  Z0f P 35 [.int .i64 p, .int .i64 n] w fun r w' => r = .int .i64 (Z1Q p n) ∧ w = w' := by
 refine Z0o func35 rfl ntmps35 rfl ?_
 have hwb := Z3m (p := p) hn.1
 have htg := tmod_gt (p := p) hn.1
 have htl := Int.tmod_lt_of_pos p hn.1
 refine Z03 (Z00 (Zg (Z01 (Z02 ?_))))
 refine Zk [0, 1] ?_
 refine Z03 (Z00 (Zm (Zm ?_)))
 refine Z2e rfl rfl rfl rfl ZO rfl ?_
 refine Zg (Z01 (Z02 ?_))
 refine Zk [1, 5] ?_
 refine Z1q (ι := Int) (fun (kk : Int) (w' : World) => w = w' ∧ kk = Z1Q p n) (fun (kk : Int) => [(5, .int .i64 kk)]) [] .nil ?_ ?_
 ·refine Z03 (Z00 (Zm ?_))
  refine Zl ?_
  refine Z01 (Z02 ?_)
  refine Zk [1, 5, 10] ?_
  (first | refine Z0c rfl ?_ ?_ | refine Z08 rfl ?_ ?_) <;> intro hc0
  ·refine Z00 (Zm (Zm ?_))
   refine Z0y rfl rfl rfl rfl (Z0l ZO) ?_
   refine Zg (Z01 ?_)
   refine Z0w (p.tmod n + n) ?_ .nil ?_
   ·exact ⟨rfl, by unfold Z1Q; rw [if_pos ZA]⟩
   exact (.cons rfl ZN .nil)
  refine Z0a ?_
  refine Z0w (p.tmod n) ?_ .nil ?_
  ·exact ⟨rfl, by unfold Z1Q; rw [if_neg ZA]⟩
  exact (.cons rfl ZN .nil)
 rintro kk _ ⟨rfl, hkk⟩
 show RunC P _ _ _ (_ :: _) _
 refine Z03 (Z00 (Zm (Zg (Z01 (Z02 ?_)))))
 refine Zk [4] ?_
 refine Z0i ?_
 refine Z0e results35 rfl ?_
 refine ⟨_, rfl, ?_⟩
 exact ⟨by rw [hkk], rfl⟩
theorem segLen_le6 (s : Int) : Z15 s ≤ 16 := by
 unfold Z15 Z0M
 split
 ·decide
 dsimp only
 split <;> omega
open Go.ChangeShapes Go.WideShapes Go.ChangeAt Go.RowKit
section
variable {H : Type} {enc : TypeId × Value → H} {P : Program} {W : World}
theorem rows_asks : ∀ rs : List (List Value), (∀ x ∈ rs, ∃ v l, x = [v] ∧ IV W v (ints .i64 l) ∧ Rg (-9223372036854775808) 9223372036854775807 l) → ∃ (vs : List Value) (ls : List (List Int)), rs.flatten = vs ∧ vs.length = rs.length ∧ vs.length = ls.length ∧ (∀ l ∈ ls, Rg (-9223372036854775808) 9223372036854775807 l) ∧ ∀ (j : Nat) (x : Value) (l : List Int), vs[j]? = some x → ls[j]? = some l → IV W x (ints .i64 l)
 | [], _ => ⟨[], [], rfl, rfl, rfl, fun _ h => (nomatch h), fun j x l h => by simp at h⟩
 | r :: rs, h => by
  obtain ⟨v, l, rfl, hv, hR⟩ := h r (.head _)
  obtain ⟨vs, ls, e, h1, h2, h3, h4⟩ := rows_asks rs fun x hx => h x (.tail _ hx)
  refine ⟨v :: vs, l :: ls, by rw [List.flatten_cons, e]; rfl, by simpa using h1, by simpa using h2, fun a ha => ?_, fun j x a hx ha => ?_⟩
  ·rcases List.mem_cons.1 ha with rfl | ha
   ·exact hR
   exact h3 a ha
  cases j with
  | zero =>
   simp at hx ha
   subst hx ha
   exact hv
  | succ j => exact h4 j x a (by simpa using hx) (by simpa using ha)
theorem open_asks {r : Reach} {b0 : Nat} {t s e : TypeId} {v : Value} {d : DataW H} {ps : List MemPlace} (ht : P.underlying t = some (.slice s)) (hs : P.underlying s = some (.slice e)) (he : P.underlying e = some (.int .i64)) (hcs : P.cellsOf s = 1) (hce : P.cellsOf e = 1) (hval : Value.okWide P W r b0 t v) (h : DataW.Trod enc P W 0 (fun _ => true) true t v d ps) :
  ∃ (vs : List Value) (ls : List (List Int)), vs.length = ls.length ∧ (∀ l ∈ ls, Rg (-9223372036854775808) 9223372036854775807 l) ∧ IV W v vs ∧ ∀ (j : Nat) (x : Value) (l : List Int), vs[j]? = some x → ls[j]? = some l → IV W x (ints .i64 l) := by
 obtain ⟨rs, ⟨A, c, rfl, hc, hsl⟩, hrs⟩ := open_rows ht hcs hval h
 obtain ⟨vs, ls, e1, h1, h2, h3, h4⟩ := rows_asks rs fun x hx => by
  obtain ⟨_, fuel, y, hy⟩ := hrs x hx
  obtain ⟨v, l, e, hv, hR, _⟩ := cells_ints hs he hce hy
  exact ⟨v, l, e, hv, hR⟩
 exact ⟨vs, ls, h2, h3, ⟨A, c, by rw [h1], by rw [h1]; exact hc, by rw [← e1]; exact hsl⟩, h4⟩
end
end Go.Proofs.YtgfkagaacdblbaaGreat.W
