/- Windows in regions that draw their order; rows beside one that a call turns. -/
import Derived.Test.YtgjgahmhoflgcaaGreatDoorVh
set_option linter.unusedVariables false
set_option linter.unusedSimpArgs false
namespace Go.Vc
open Go.RowKit
section
variable {P : Program} {N : Nat} {ops : Array Oper} {Q : Z26} {ρ : Env} {w w0 : World} {rest : List Oper} {d : Nat} {ty : TypeId} {pos : String} {af : Array Edge} {g : Option (Nat × Bool)}
  {B : Nat} {M : Nat → Prop} {σ σ' : List As} {E : TypeId} {cs : List Value} {v : Value}
theorem Z4U {x ix : Operand} {k : IntKind} {i : Int} {j l m c : Nat} {ad : Addr} {T e : TypeId} (hg : Z0t ops ρ g = true) (hN : Nat.blt d N = true) (hT : P.underlying T = some (.slice e)) (hsz : (P.info? e).map (·.size) = some 1)
  (hx : Z0g ρ x = some (.slice ((some ad).map (·.add l)) m c)) (hi : Z0g ρ ix = some (.int k i)) (hij : i = (j : Int)) (hb : j < m)
  (nx : RunL P N ops Q rest ((d, .pointer ((some ad).map (·.add (l + j)))) :: ρ) w) : RunL P N ops Q (⟨some d, .indexAddr T x ix, ty, pos, af, g⟩ :: rest) ρ w := by
 refine Z1c (ad := ad.add l) hg hN hT hsz hx hi rfl hij hb ?_
 have e : (some (ad.add l)).map (·.add j) = (some ad).map (·.add (l + j)) := map_add (some ad) l j
 rw [e]
 exact nx
theorem St.tailKeeps {A X : As} (hw : St w0 B M (A :: σ) w) (hm : X ∈ σ) : ∀ w1 : World, (∀ k, k < w.heap.size → ¬ A.fp k → w1.heap[k]? = w.heap[k]?) → X.ok w1 := fun w1 h =>
 X.loc w w1 (fun k hk => h k (hw.sep.lt (.tail _ hm) k hk).2 fun hf => hw.sep.2.2.1 X hm k hf hk) (hw.sep.ok (.tail _ hm))
end
end Go.Vc
