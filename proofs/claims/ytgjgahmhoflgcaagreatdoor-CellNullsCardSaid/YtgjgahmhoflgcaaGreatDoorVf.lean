/- A row that was appended to, beside its old reading; many rows of any kind as one. -/
import Derived.Test.YtgjgahmhoflgcaaGreatDoorVb
set_option linter.unusedVariables false
set_option linter.unusedSimpArgs false
namespace Go.Vc
open Go.RowKit
theorem Z52 {w : World} {v : Value} {cs : List Value} (h : IV w v cs) : v.oneCell' = true := by
 obtain ⟨A, c, e, _⟩ := h
 rw [e]
 rfl
def As.both (E : TypeId) (v : Value) (cs : List Value) (v' : Value) (cs' : List Value) : As :=
  ⟨fun k => v.ownBlock = some k ∨ v'.ownBlock = some k,
   fun w => IV w v cs ∧ Own w E 1 v' cs'.length cs' ∧ ((∃ A c c', v = .slice A cs.length c ∧ v' = .slice A cs'.length c' ∧ cs.length ≤ c ∧ ∃ t, cs' = cs ++ t) ∨ ∀ k, v.ownBlock = some k → v'.ownBlock ≠ some k),
   fun w w' h hw => ⟨(As.iv v cs).loc w w' (fun k hk => h k (.inl hk)) hw.1, (As.own E 1 v' cs'.length cs').loc w w' (fun k hk => h k (.inr hk)) hw.2.1, hw.2.2⟩⟩
section
variable {w0 w w' : World} {B : Nat} {M : Nat → Prop} {σ σ' : List As} {E : TypeId} {v v' : Value} {cs cs' : List Value}
end
section
variable {P : Program} {N : Nat} {ops : Array Oper} {Q : Z26} {ρ : Env} {w w0 : World} {rest : List Oper} {d : Nat} {ty : TypeId} {pos : String} {af : Array Edge} {g : Option (Nat × Bool)}
  {B : Nat} {M : Nat → Prop} {σ σ' : List As} {E : TypeId} {cs cs' : List Value} {v v' : Value}
end
def As.many (τ : List As) : As :=
 ⟨fun k => ∃ A ∈ τ, A.fp k, fun w => ∀ A ∈ τ, A.ok w, fun w w' h hw A hA => A.loc w w' (fun k hk => h k ⟨A, hA, hk⟩) (hw A hA)⟩
section
variable {w0 w w' : World} {B : Nat} {M : Nat → Prop} {σ σ' : List As}
theorem many_nil (h : St w0 B M σ w) : St w0 B M (As.many [] :: σ) w :=
 ⟨h.ext, h.base, (fun _ h => by cases h), (fun k hk => by obtain ⟨_, h, _⟩ := hk; cases h), (fun _ _ k hk => by obtain ⟨_, h, _⟩ := hk; cases h), h.sep⟩
theorem many_in {A : As} {τ : List As} (h : St w0 B M (A :: As.many τ :: σ) w) : St w0 B M (As.many (τ ++ [A]) :: σ) w := by
 obtain ⟨hx, hB, h1, h2, h3, h4, h5, h6, h7⟩ := h
 refine ⟨hx, hB, fun X hX => ?_, fun k hk => ?_, fun X hX k hk => ?_, h7⟩
 ·rcases List.mem_append.1 hX with h | h
  ·exact h4 X h
  rw [List.mem_singleton.1 h]; exact h1
 ·obtain ⟨X, hX, hk⟩ := hk
  rcases List.mem_append.1 hX with h | h
  ·exact h5 k ⟨X, h, hk⟩
  rw [List.mem_singleton.1 h] at hk; exact h2 k hk
 obtain ⟨Y, hY, hk⟩ := hk
 rcases List.mem_append.1 hY with h | h
 ·exact h6 X hX k ⟨Y, h, hk⟩
 rw [List.mem_singleton.1 h] at hk
 exact h3 X (.tail _ hX) k hk
theorem Sep.frontL_ {A : As} : ∀ {l r : List As}, Sep B M w (l ++ A :: r) → Sep B M w (A :: (l ++ r))
 | [], _, h => h
 | X :: l, r, h => (h.tail_ (fun s => s.frontL_) (fun Z hZ => by
   simp only [List.cons_append, List.mem_cons, List.mem_append] at hZ ⊢
   rcases hZ with h | h | h <;> simp [h])).swap_
theorem St.frontL {A : As} {l r : List As} (h : St w0 B M (l ++ A :: r) w) : St w0 B M (A :: (l ++ r)) w := ⟨h.ext, h.base, h.sep.frontL_⟩
end
end Go.Vc
