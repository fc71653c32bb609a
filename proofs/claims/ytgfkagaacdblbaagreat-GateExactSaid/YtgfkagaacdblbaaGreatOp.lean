/- arguments that are rows of rows -/
import Derived.Test.YtgfkagaacdblbaaGreatVx
import Derived.Test.YtgfkagaacdblbaaGreatVr
set_option linter.unusedVariables false
set_option linter.unusedSimpArgs false
set_option maxRecDepth 10000
namespace Go.Proofs.YtgfkagaacdblbaaGreat.W
open Go.Vc Go.RowKit
open Go.ChangeShapes Go.WideShapes Go.ChangeAt Go.RowKit
section
variable {H : Type} {enc : TypeId × Value → H} {P : Program} {W W' : World}
theorem Z33 {k : Nat} : ∀ (rs : List (List Value)), (∀ x ∈ rs, x.length = k) → rs.flatten.length = rs.length * k
 | [], _ => by simp
 | r :: rs, h => by
  have h2 := Z33 rs (fun x hx => h x (.tail _ hx))
  rw [List.flatten_cons, List.length_append, h r (.head _), h2, List.length_cons, Nat.add_mul, Nat.one_mul, Nat.add_comm]
theorem flat_at {k : Nat} : ∀ (rs : List (List Value)), (∀ x ∈ rs, x.length = k) → ∀ (j : Nat) (r : List Value), rs[j]? = some r → ∀ (i : Nat), i < k → rs.flatten[j * k + i]? = r[i]?
 | [], _, j, r, h, i, hi => by simp at h
 | x :: rs, h, 0, r, hr, i, hi => by
  have hx := h x (.head _)
  obtain rfl : x = r := by simpa using hr
  rw [Nat.zero_mul, Nat.zero_add, List.flatten_cons, List.getElem?_append_left ZO]
 | x :: rs, h, j + 1, r, hr, i, hi => by
  have hx := h x (.head _)
  have ih := flat_at rs (fun y hy => h y (.tail _ hy)) j r (by simpa using hr) i hi
  rw [List.flatten_cons, List.getElem?_append_right (by rw [hx, Nat.add_mul, Nat.one_mul]; omega), hx, ← ih]
  congr 1
  rw [Nat.add_mul, Nat.one_mul]
  omega
theorem open_rows {r : Reach} {b0 k : Nat} {t e : TypeId} {v : Value} {d : DataW H} {ps : List MemPlace} (ht : P.underlying t = some (.slice e)) (hc : P.cellsOf e = k) (hval : Value.okWide P W r b0 t v) (h : DataW.Trod enc P W 0 (fun _ => true) true t v d ps) :
  ∃ rs : List (List Value), (∃ A c, v = .slice A rs.length c ∧ rs.length ≤ c ∧ Sl W A rs.flatten) ∧ ∀ x ∈ rs, x.length = k ∧ ∃ fuel y, DataW.trod enc P W 0 (fun _ => true) true fuel e x = some y := by
 obtain ⟨A, len, cap, rfl⟩ := okWide_slice ht hval
 obtain ⟨fuel, hf⟩ := h
 rcases DataW.trod_slice ht hf with ⟨hcs, _⟩ | ⟨a, len', cap', elems, rest, n, _, hcs, _, hb, hl, hm, hel, hE, _, _⟩
 ·have e1 : Value.slice A len cap = .slice none 0 0 := by simpa [Value.cells] using hcs
  rw [e1]
  exact ⟨[], ⟨none, 0, rfl, Nat.le_refl _, Sl.nil _ _⟩, fun x hx => by cases hx⟩
 have e1 : Value.slice A len cap = .slice (some a) len' cap' := by simpa [Value.cells] using hcs
 rw [e1]
 have hcell : ∀ i, i < len' → ∃ cs, W.cells? 0 (a.add (i * k)) k = some cs ∧ ∃ y, DataW.trod enc P W 0 (fun _ => true) true n e cs = some y := fun i hi => by
  have h1 := hE i hi
  rw [hc] at h1
  rw [List.getElem?_eq_getElem ZO] at h1
  obtain ⟨cs, h2, h3⟩ := Option.bind_eq_some_iff.1 h1
  exact ⟨cs, h2, _, h3⟩
 let rs := (List.range len').map fun i => (W.cells? 0 (a.add (i * k)) k).getD []
 have hrl : rs.length = len' := by simp [rs]
 have hri : ∀ i, i < len' → ∃ cs, rs[i]? = some cs ∧ W.cells? 0 (a.add (i * k)) k = some cs ∧ cs.length = k ∧ ∃ y, DataW.trod enc P W 0 (fun _ => true) true n e cs = some y := fun i hi => by
  obtain ⟨cs, h1, h2⟩ := hcell i hi
  exact ⟨cs, by simp [rs, hi, h1], h1, (World.cells?_some h1).2.1, h2⟩
 have hall : ∀ x ∈ rs, x.length = k := fun x hx => by
  obtain ⟨i, hi, rfl⟩ := List.mem_iff_getElem.1 hx
  obtain ⟨cs, h1, _, h2, _⟩ := hri i ZO
  rw [List.getElem?_eq_getElem hi] at h1
  injection h1 with h1
  rw [h1]
  exact h2
 refine ⟨rs, ⟨some a, cap', by rw [hrl], ZO, fun j x hj => ⟨a, rfl, ?_⟩⟩, fun x hx => ⟨hall x hx, ?_⟩⟩
 ·rcases Nat.eq_zero_or_pos k with hk | hk
  ·have : rs.flatten = [] := List.flatten_eq_nil_iff.2 fun l hl => List.eq_nil_of_length_eq_zero (by rw [hall l hl, hk])
   rw [this] at hj
   simp at hj
  have hfl : rs.flatten.length = rs.length * k := Z33 rs hall
  have hj' : j < rs.length * k := by rw [← hfl]; exact (List.getElem?_eq_some_iff.1 hj).1
  have hi : j / k < len' := by rw [← hrl]; exact Nat.div_lt_of_lt_mul (by rw [Nat.mul_comm]; exact hj')
  obtain ⟨cs, h1, h2, h3, _⟩ := hri (j / k) hi
  have h4 := flat_at rs hall (j / k) cs h1 (j % k) (Nat.mod_lt _ hk)
  have e2 : j / k * k + j % k = j := by rw [Nat.mul_comm]; exact Nat.div_add_mod j k
  rw [e2, hj] at h4
  have h5 := (World.cells?_some h2).2.2 (j % k) (Nat.mod_lt _ hk)
  rw [← h4] at h5
  rw [← h5]
  congr 1
  rw [Addr.add_add, e2]
 obtain ⟨i, hi, rfl⟩ := List.mem_iff_getElem.1 hx
 obtain ⟨cs, h1, _, _, y, h2⟩ := hri i ZO
 rw [List.getElem?_eq_getElem hi] at h1
 injection h1 with h1
 rw [h1]
 exact ⟨n, y, h2⟩
theorem cells_field {t : TypeId} {fs : Array Field} {fuel : Nat} {cs : List Value} {x : DataW H × List MemPlace} (ht : P.underlying t = some (.struct fs)) (h : DataW.trod enc P W 0 (fun _ => true) true fuel t cs = some x) :
  cs.length = P.cellsOf t ∧ ∀ (i : Nat) (f : Field), fs.toList[i]? = some f → ∃ fuel x, DataW.trod enc P W 0 (fun _ => true) true fuel f.type ((cs.drop f.offset).take (P.cellsOf f.type)) = some x := by
 cases fuel with
 | zero => simp [DataW.trod] at h
 | succ n =>
  simp only [DataW.trod, ht] at h
  split at h
  ·rename_i hl
   refine ⟨hl, fun i f hi => ?_⟩
   simp only [Option.map_eq_some_iff] at h
   obtain ⟨xs, hm, _⟩ := h
   obtain ⟨b, hb⟩ := mapM_at hm i f hi
   exact ⟨n, b, hb⟩
  cases h
theorem four_cells {cs : List Value} {v0 v1 v2 v3 : Value} (h : cs.length = 4) (e0 : (cs.drop 0).take 1 = [v0]) (e1 : (cs.drop 1).take 1 = [v1]) (e2 : (cs.drop 2).take 1 = [v2]) (e3 : (cs.drop 3).take 1 = [v3]) : cs = [v0, v1, v2, v3] := by
 match cs, h with
 | [a0, a1, a2, a3], _ => simp_all
theorem i64_wf {n : Int} (h : (Lit.int .i64 n).wf = true) : -9223372036854775808 ≤ n ∧ n ≤ 9223372036854775807 := by
 simp only [Lit.wf, Bool.and_eq_true, decide_eq_true_eq] at h
 have e1 : IntKind.min .i64 = -9223372036854775808 := by decide
 have e2 : IntKind.max .i64 = 9223372036854775807 := by decide
 rw [e1, e2] at h
 exact h
theorem cells_ints {t e : TypeId} {fuel : Nat} {cs : List Value} {x : DataW H × List MemPlace} (ht : P.underlying t = some (.slice e)) (he : P.underlying e = some (.int .i64)) (hc : P.cellsOf e = 1) (h : DataW.trod enc P W 0 (fun _ => true) true fuel t cs = some x) :
  ∃ v l, cs = [v] ∧ IV W v (ints .i64 l) ∧ Rg (-9223372036854775808) 9223372036854775807 l ∧ v.oneCell' = true := by
 rcases open_ints ht he hc h with ⟨hcs, _⟩ | ⟨a, len', cap', zs, hcs, _, hl, hm, hz, _, hcell, hwz⟩
 ·exact ⟨_, [], hcs, IV.nil W, fun _ h => (by cases h), rfl⟩
 simp only [if_true] at hz
 have hlen : (ints .i64 (zs.take len')).length = len' := by rw [List.length_map, List.length_take]; omega
 refine ⟨_, zs.take len', hcs, ⟨some a, cap', by rw [hlen], ZO, fun j v hj => ⟨a, rfl, ?_⟩⟩, fun n hn => i64_wf (hwz n (List.mem_of_mem_take hn)), rfl⟩
 have hj' : j < len' := by rw [← hlen]; exact (List.getElem?_eq_some_iff.1 hj).1
 rw [hcell j ZO]
 rw [Z4J _ _ _ (by rw [List.length_take]; omega)] at hj
 injection hj with hj
 rw [← hj]
 congr 2
 simp [List.getD, List.getElem?_take, hj']
end
end Go.Proofs.YtgfkagaacdblbaaGreat.W
