/- the law GateGoes -/
import Derived.Test.YtgfkagaacdblbaaGreatYy
set_option linter.unusedVariables false
set_option linter.unusedSimpArgs false
set_option maxRecDepth 10000
namespace Go.Proofs.YtgfkagaacdblbaaGreat.W
open Go.Vc Go.RowKit
theorem Z3k : ∀ {cs : List Value} {o : Nat} (h : o < cs.length) (x : Value), Z1F cs o x (cs.set o x)
 | c :: cs, 0, _, x => .zero
 | c :: cs, o + 1, h, x => .succ (Z3k (cs := cs) (o := o) (by simpa using h) x)
def AskU (ls : List (List Int)) (i t : Nat) : Prop := ∃ (j : Nat) (l : List Int), j < i ∧ ls[j]? = some l ∧ ∃ q ∈ l, (Z0K q).1.toNat = t
def AskO (ls : List (List Int)) (i : Nat) (F : List Bool) : Prop := F.length = 41 ∧ ∀ t, t < 41 → (F.getD t false = true ↔ AskU ls i t)
def AskF (ls : List (List Int)) (i k : Nat) (l : List Int) (F : List Bool) : Prop := F.length = 41 ∧ ∀ t, t < 41 → (F.getD t false = true ↔ AskU ls i t ∨ ∃ j, j < k ∧ (Z0K (l.getD j 0)).1.toNat = t)
theorem AskO.zero (ls : List (List Int)) : AskO ls 0 (List.replicate 41 false) := by
 refine ⟨by simp, fun t ht => ?_⟩
 have e : (List.replicate 41 false).getD t false = false := by
  rw [List.getD_eq_getElem?_getD, List.getElem?_replicate, if_pos ht]
  rfl
 rw [e]
 constructor
 ·intro h; cases h
 rintro ⟨j, _, h, _⟩; omega
theorem AskO.start {ls : List (List Int)} {i : Nat} {F : List Bool} (h : AskO ls i F) (l : List Int) : AskF ls i 0 l F := by
 refine ⟨h.1, fun t ht => ?_⟩
 rw [h.2 t ht]
 constructor
 ·exact .inl
 rintro (h | ⟨j, h, _⟩)
 ·exact h
 omega
theorem AskF.set {ls : List (List Int)} {i k : Nat} {l : List Int} {F : List Bool} (h : AskF ls i k l F) : AskF ls i (k + 1) l (F.set (Z0K (l.getD k 0)).1.toNat true) := by
 refine ⟨by simpa using h.1, fun t ht => ?_⟩
 have hd : (F.set (Z0K (l.getD k 0)).1.toNat true).getD t false = if t = (Z0K (l.getD k 0)).1.toNat then true else F.getD t false := by
  by_cases e : t = (Z0K (l.getD k 0)).1.toNat
  ·rw [if_pos e, ← e, List.getD_eq_getElem?_getD, List.getElem?_set_self (by have := h.1; omega)]
   rfl
  rw [if_neg e, List.getD_eq_getElem?_getD, List.getElem?_set_ne (fun h => e h.symm), ← List.getD_eq_getElem?_getD]
 rw [hd]
 split
 ·rename_i e
  exact ⟨fun _ => .inr ⟨k, ZO, e.symm⟩, fun _ => rfl⟩
 rename_i e
 rw [h.2 t ht]
 constructor
 ·rintro (h | ⟨j, h1, h2⟩)
  ·exact .inl h
  exact .inr ⟨j, ZO, h2⟩
 rintro (h | ⟨j, h1, h2⟩)
 ·exact .inl h
 refine .inr ⟨j, ?_, h2⟩
 rcases Nat.lt_or_ge j k with h3 | h3
 ·exact h3
 obtain rfl : j = k := by omega
 exact absurd h2.symm e
theorem AskF.done {ls : List (List Int)} {i : Nat} {l : List Int} {F : List Bool} (hl : ls[i]? = some l) (h : AskF ls i l.length l F) : AskO ls (i + 1) F := by
 refine ⟨h.1, fun t ht => ?_⟩
 rw [h.2 t ht]
 constructor
 ·rintro (⟨j, l2, h1, h2, h3⟩ | ⟨j, h1, h2⟩)
  ·exact ⟨j, l2, ZO, h2, h3⟩
  exact ⟨i, l, ZO, hl, l.getD j 0, by simp [List.getD, h1], h2⟩
 rintro ⟨j, l2, h1, h2, q, hq, h3⟩
 rcases Nat.lt_or_ge j i with h4 | h4
 ·exact .inl ⟨j, l2, h4, h2, q, hq, h3⟩
 obtain rfl : j = i := by omega
 rw [hl] at h2
 cases h2
 obtain ⟨k, hk, rfl⟩ := List.mem_iff_getElem.1 hq
 exact .inr ⟨k, hk, by simpa [List.getD, hk] using h3⟩
theorem AskO.asked {ls : List (List Int)} {i : Nat} {F : List Bool} (h : AskO ls i F) (hi : ls.length ≤ i) {t : Nat} (ht : t < 41) : F.getD t false = true ↔ askedS ls t := by
 rw [h.2 t ht]
 constructor
 ·rintro ⟨j, l, _, h2, q, hq, h3⟩
  exact ⟨l, List.mem_of_getElem? h2, q, hq, h3⟩
 rintro ⟨l, hl, q, hq, h3⟩
 obtain ⟨j, hj, rfl⟩ := List.mem_iff_getElem.1 hl
 exact ⟨j, _, ZO, List.getElem?_eq_getElem hj, q, hq, h3⟩
end Go.Proofs.YtgfkagaacdblbaaGreat.W
