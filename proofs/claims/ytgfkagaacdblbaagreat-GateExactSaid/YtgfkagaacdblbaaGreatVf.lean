/- A row that was appended to, beside its old reading; many rows of any kind as one. -/
import Derived.Test.YtgfkagaacdblbaaGreatVb
set_option linter.unusedVariables false
set_option linter.unusedSimpArgs false
namespace Go.Vc
open Go.RowKit
theorem slice_one {w : World} {v : Value} {cs : List Value} (h : IV w v cs) : v.oneCell' = true := by
 obtain ⟨A, c, e, _⟩ := h
 rw [e]
 rfl
section
variable {w0 w w' : World} {B : Nat} {M : Nat → Prop} {σ σ' : List As} {E : TypeId} {v v' : Value} {cs cs' : List Value}
end
section
variable {P : Program} {N : Nat} {ops : Array Oper} {Q : Z26} {ρ : Env} {w w0 : World} {rest : List Oper} {d : Nat} {ty : TypeId} {pos : String} {af : Array Edge} {g : Option (Nat × Bool)}
  {B : Nat} {M : Nat → Prop} {σ σ' : List As} {E : TypeId} {cs cs' : List Value} {v v' : Value}
end
def As.many (τ : List As) : As :=
 ⟨fun k => ∃ A ∈ τ, A.fp k, fun w => ∀ A ∈ τ, A.ok w, fun w w' h hw A hA => A.loc w w' (fun k hk => h k ⟨A, hA, hk⟩) (hw A hA)⟩
section
variable {w0 w w' : World} {B : Nat} {M : Nat → Prop} {σ σ' : List As}
theorem Sep.frontL_ {A : As} : ∀ {l r : List As}, Sep B M w (l ++ A :: r) → Sep B M w (A :: (l ++ r))
 | [], _, h => h
 | X :: l, r, h => (h.tail_ (fun s => s.frontL_) (fun Z hZ => by
   simp only [List.cons_append, List.mem_cons, List.mem_append] at hZ ⊢
   rcases hZ with h | h | h <;> simp [h])).swap_
theorem St.frontL {A : As} {l r : List As} (h : St w0 B M (l ++ A :: r) w) : St w0 B M (A :: (l ++ r)) w := ⟨h.ext, h.base, h.sep.frontL_⟩
theorem St.restKeeps {τ σ : List As} {X : As} (hw : St w0 B M (τ ++ σ) w) (hm : X ∈ σ) : ∀ w1 : World, (∀ k, k < w.heap.size → ¬ fps τ k → w1.heap[k]? = w.heap[k]?) → X.ok w1 := fun w1 h =>
 X.loc w w1 (fun k hk => h k (hw.sep.lt (List.mem_append_right _ hm) k hk).2 fun ⟨A, hA, hf⟩ => hw.sep.cross A hA X hm k hf hk) (hw.sep.ok (List.mem_append_right _ hm))
end
end Go.Vc
