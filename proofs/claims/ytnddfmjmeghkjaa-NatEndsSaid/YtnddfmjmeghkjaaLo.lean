/- a book of answers as laws keep it -/
import Derived.Test.YtnddfmjmeghkjaaLm
set_option linter.unusedVariables false
set_option linter.unusedSimpArgs false
set_option maxRecDepth 10000
namespace Go.Proofs.Ytnddfmjmeghkjaa.W
open Go.Vc Go.RowKit

/-- a book as it is while answers are written down -/
def Bk (an cp : List (Value × List Int)) : Prop := cp.length = an.length ∧ ∀ i, i < an.length → (cp.getD i D0).2 = (an.getD i D0).2 ∧ U (an.getD i D0).2 ∧ (an.getD i D0).2.length ≤ 1099511627776
theorem Bk.nil : Bk [] [] := ⟨rfl, fun i h => by simp at h⟩
theorem Bk.snoc {an cp : List (Value × List Int)} {v m : Value} {l : List Int} (h : Bk an cp) (hU : U l) (hL : l.length ≤ 1099511627776) : Bk (an ++ [(v, l)]) (cp ++ [(m, l)]) := by
  refine ⟨by simp [h.1], fun i hi => ?_⟩
  by_cases e : i < an.length
  · have := h.2 i e
    have hc : i < cp.length := by rw [h.1]; exact e
    simpa [List.getD, List.getElem?_append_left e, List.getElem?_append_left hc] using this
  · have e2 : i = an.length := by simp at hi; omega
    subst e2
    have : (cp ++ [(m, l)]).getD an.length D0 = (m, l) := by rw [← h.1]; simp [List.getD]
    rw [this]
    simp [List.getD]
    exact ⟨hU, hL⟩
theorem addB (kb : Nat) (vw vm v : Value) (an cp : List (Value × List Int)) (l : List Int) (hU : U l) (hL : l.length ≤ 1099511627776) (hB : Bk an cp) (hn : an.length < 400) (w : World) (hS : Sep w.heap.size (fps (book kb vw vm an cp ++ [As.ri 22 .u64 v l])) w (book kb vw vm an cp ++ [As.ri 22 .u64 v l])) :
    CallsV P 36 [.pointer (some ⟨kb, 0, none⟩), v] w fun r w' => ∃ vw' vm' an' cp', r = .tuple #[] ∧ Bk an' cp' ∧ an'.length = an.length + 1 ∧ (v, l) ∈ an' ∧ Trans w w' (book kb vw vm an cp ++ [As.ri 22 .u64 v l]) (book kb vw' vm' an' cp') := by
  refine (bookWords kb vw vm v an cp l hU hL hn (by rw [hB.1]; exact hn) w hS).mono ?_
  rintro r w' ⟨vw', vm', m, rfl, hX⟩
  exact ⟨vw', vm', _, _, rfl, hB.snoc hU hL, by simp, by simp, hX⟩
theorem bag_mem {an : List (Value × List Int)} {v : Value} {l : List Int} (h : (v, l) ∈ an) : (v, ints .u64 l) ∈ an.map fun p => (p.1, ints .u64 p.2) := List.mem_map.2 ⟨_, h, rfl⟩
theorem head_ok {A : Option Addr} {c : Nat} {l : List Int} {w : World} (h : (As.ri 22 .u64 (.slice A (l.length + 1) c) (l ++ [42330])).ok w) : IV w (.slice A l.length c) (ints .u64 l) := by
  obtain ⟨A', c', e, hc, hs⟩ := Own.iv h
  injection e with e1 e2 e3
  subst e1 e3
  have hc' : l.length + 1 ≤ c := by simpa using hc
  refine ⟨A, c, by simp, by simp; omega, fun j v hj => hs j v ?_⟩
  have hj' : j < l.length := by simpa using (List.getElem?_eq_some_iff.1 hj).1
  rw [ints, List.map_append, List.getElem?_append_left (by simpa using hj')]
  exact hj
theorem some_ok {A : Option Addr} {c : Nat} {l : List Int} {w : World} (h : (As.ri 22 .u64 (.slice A (l.length + 1) c) (l ++ [42330])).ok w) : ∃ ad, A = some ad := by
  obtain ⟨A', c', e, hc, hs⟩ := Own.iv h
  injection e with e1 e2 e3
  subst e1
  exact hs.some_ (by simp)

end Go.Proofs.Ytnddfmjmeghkjaa.W
