/- Functions as values: made with what they hold, and called. -/
import Derived.Test.YtgjgahmhoflgcaaGreatDoorVi
set_option linter.unusedVariables false
set_option linter.unusedSimpArgs false
namespace Go.Vc
open Go.RowKit
section
variable {P : Program} {N : Nat} {ops : Array Oper} {Q : Z26} {ρ : Env} {w w0 : World} {rest : List Oper} {d : Nat} {ty : TypeId} {pos : String} {af : Array Edge} {g : Option (Nat × Bool)}
theorem Z1I {f : FuncId} {caps : List Operand} {vals : List Value} (hg : Z0t ops ρ g = true) (hN : Nat.blt d N = true) (hv : Z1f ρ caps vals)
  (n : RunL P N ops Q rest ((d, .func (.func f) #[] vals.toArray) :: ρ) w) : RunL P N ops Q (⟨some d, .makeFunc (.func f) #[] caps.toArray, ty, pos, af, g⟩ :: rest) ρ w :=
 Z1n hg rfl hN (fun a ha => by
  have hmap : caps.toArray.map a.eval = vals.toArray := by rw [← hv.map ha]; simp
  simp [execOp, Instr.makeFunc, hmap]) n
theorem Z3g {Q : Post} {x : Operand} {f : FuncId} {fn : Func} {c : Code} {args : List Operand} {vals caps : List Value} {ats : Array TypeId} {R : Value → World → Prop} (hg : Z0t ops ρ g = true) (hN : Nat.blt d N = true) (hx : Z0g ρ x = some (.func (.func f) #[] caps.toArray)) (hf : P.funcs[f]? = some fn) (hn : (fn.name == "runtime.NumGoroutine") = false) (hb : fn.body = some c)
  (hv : Z1f ρ args vals) (h : Z0f P f (vals ++ caps) w R) (n : ∀ v w', R v w' → RunL P N ops ⟨false, Q⟩ rest ((d, v) :: ρ) w') : RunL P N ops ⟨false, Q⟩ (⟨some d, .call ⟨.value x, args.toArray, ats⟩, ty, pos, af, g⟩ :: rest) ρ w := fun a ha => by
 show wpList P ops Q (_ :: _) a w
 unfold wpList
 rw [if_pos (Z1X ha hg)]
 refine .inl ?_
 unfold Oper.wp
 have h1 : fn.name ≠ "runtime.NumGoroutine" := by simpa using hn
 have hmap : args.toArray.map a.eval = vals.toArray := by rw [← hv.map ha]; simp
 have : (execOp a.eval ⟨some d, .call ⟨.value x, args.toArray, ats⟩, ty, pos, af, g⟩).run P w = .ok (.enter f (vals ++ caps).toArray) w := by
  simp only [execOp, resolve, hmap, ha.eval hx]
  simp [Deferred.ofValue, invoke, callFunc, hf, h1, hb]
 rw [this, Oper.upon_enter]
 refine Calls.mono h fun e w' hr => ?_
 obtain ⟨v, rfl, hr⟩ := hr
 exact n v w' hr _ (ha.put d hN v)
end
end Go.Vc
