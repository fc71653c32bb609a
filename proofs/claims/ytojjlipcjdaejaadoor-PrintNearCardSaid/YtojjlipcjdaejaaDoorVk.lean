/- Slices of structs: rows of rows of cells. -/
import Derived.Test.YtojjlipcjdaejaaDoorVj
set_option linter.unusedVariables false
set_option linter.unusedSimpArgs false
namespace Go.Vc
open Go.RowKit
def Rows_ (k : Nat) (rs : List (List Value)) : Prop := ∀ r ∈ rs, r.length = k ∧ ∀ v ∈ r, v.oneCell' = true
theorem Rows_.len {k : Nat} : ∀ {rs : List (List Value)}, Rows_ k rs → rs.flatten.length = rs.length * k
 | [], _ => by simp
 | r :: rs, h => by
  have h1 := (h r (.head _)).1
  have h2 := Rows_.len (k := k) (rs := rs) (fun x hx => h x (.tail _ hx))
  rw [List.flatten_cons, List.length_append, h1, h2, List.length_cons, Nat.add_mul, Nat.one_mul, Nat.add_comm]
theorem Rows_.at {k : Nat} : ∀ {rs : List (List Value)}, Rows_ k rs → ∀ (j : Nat) (r : List Value), rs[j]? = some r → ∀ (i : Nat), i < k → rs.flatten[j * k + i]? = r[i]?
 | [], _, j, r, h, i, hi => by simp at h
 | x :: rs, h, 0, r, hr, i, hi => by
  have hx := (h x (.head _)).1
  obtain rfl : x = r := by simpa using hr
  rw [Nat.zero_mul, Nat.zero_add, List.flatten_cons, List.getElem?_append_left (by omega)]
 | x :: rs, h, j + 1, r, hr, i, hi => by
  have hx := (h x (.head _)).1
  have ih := Rows_.at (k := k) (rs := rs) (fun y hy => h y (.tail _ hy)) j r (by simpa using hr) i hi
  rw [List.flatten_cons, List.getElem?_append_right (by rw [hx, Nat.add_mul, Nat.one_mul]; omega), hx, ← ih]
  congr 1
  rw [Nat.add_mul, Nat.one_mul]
  omega
theorem Rows_.set {k : Nat} {rs : List (List Value)} (h : Rows_ k rs) {vs : List Value} (hv : vs.length = k) (h1 : ∀ v ∈ vs, v.oneCell' = true) (j : Nat) : Rows_ k (rs.set j vs) := fun r hr =>
 (List.mem_or_eq_of_mem_set hr).elim (h r) fun e => by subst e; exact ⟨hv, h1⟩
theorem Rows_.snoc {k : Nat} {rs : List (List Value)} (h : Rows_ k rs) {vs : List Value} (hv : vs.length = k) (h1 : ∀ v ∈ vs, v.oneCell' = true) : Rows_ k (rs ++ [vs]) := fun r hr =>
 (List.mem_append.1 hr).elim (h r) fun e => by rw [List.mem_singleton.1 e]; exact ⟨hv, h1⟩
theorem Rows_.nil (k : Nat) : Rows_ k [] := fun _ h => by cases h
def IK (w : World) (k : Nat) (v : Value) (rs : List (List Value)) : Prop := Rows_ k rs ∧ ∃ A c, v = .slice A rs.length c ∧ rs.length ≤ c ∧ Sl w A rs.flatten
section
variable {w0 w w' : World} {B : Nat} {M : Nat → Prop} {σ σ' : List As} {E : TypeId} {k : Nat} {rs : List (List Value)} {v : Value}
theorem IK.mono (h : IK w k v rs) (hb : ∀ j, j < w.heap.size → w'.heap[j]? = w.heap[j]?) : IK w' k v rs := by
 obtain ⟨hr, A, c, e, hc, hs⟩ := h
 exact ⟨hr, A, c, e, hc, hs.mono hb⟩
end
section
variable {P : Program} {N : Nat} {ops : Array Oper} {Q : PostM} {ρ : Env} {w w0 : World} {rest : List Oper} {d : Nat} {ty : TypeId} {pos : String} {af : Array Edge} {g : Option (Nat × Bool)}
  {B : Nat} {M : Nat → Prop} {σ σ' : List As} {E : TypeId} {k : Nat} {rs : List (List Value)} {v : Value}
end
end Go.Vc
