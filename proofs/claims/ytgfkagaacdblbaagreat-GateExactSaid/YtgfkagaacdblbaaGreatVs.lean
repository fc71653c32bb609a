/- More rules of the walk: strings, conversions, min and max, functions of Go's library without a body. -/
import Derived.Test.YtgfkagaacdblbaaGreatVa
import Derived.Lib.ConvBytes
set_option linter.unusedVariables false
set_option linter.unusedSimpArgs false
namespace Go.Vc
open Go.RowKit
theorem str_toList (l : List UInt8) : (⟨l.toArray⟩ : ByteArray).toList = l := ByteArray.toList_mk l
section
variable {P : Program} {N : Nat} {ops : Array Oper} {Q : Z26} {ρ : Env} {w w0 : World} {rest : List Oper} {d : Nat} {ty : TypeId} {pos : String} {af : Array Edge} {g : Option (Nat × Bool)}
  {B : Nat} {M : Nat → Prop} {σ σ' : List As}
theorem l_max {x y : Operand} {k : IntKind} {m q : Int} {ats : Array TypeId} (hg : Z0t ops ρ g = true) (hN : Nat.blt d N = true) (hx : Z0g ρ x = some (.int k m)) (hy : Z0g ρ y = some (.int k q)) (n : RunL P N ops Q rest ((d, .int k (max m q)) :: ρ) w) : RunL P N ops Q (⟨some d, .call ⟨.builtin .max, #[x, y], ats⟩, ty, pos, af, g⟩ :: rest) ρ w :=
 Z1n hg rfl hN (fun a ha => by
  have : (if m < q then q else m) = max m q := by omega
  simp [execOp, ha.eval hx, ha.eval hy, resolve, invoke, builtin, Builtin.max_, Builtin.max2, this]) n
theorem l_min {x y : Operand} {k : IntKind} {m q : Int} {ats : Array TypeId} (hg : Z0t ops ρ g = true) (hN : Nat.blt d N = true) (hx : Z0g ρ x = some (.int k m)) (hy : Z0g ρ y = some (.int k q)) (n : RunL P N ops Q rest ((d, .int k (min m q)) :: ρ) w) : RunL P N ops Q (⟨some d, .call ⟨.builtin .min, #[x, y], ats⟩, ty, pos, af, g⟩ :: rest) ρ w :=
 Z1n hg rfl hN (fun a ha => by
  have : (if q < m then q else m) = min m q := by omega
  simp [execOp, ha.eval hx, ha.eval hy, resolve, invoke, builtin, Builtin.min_, Builtin.min2, this]) n
theorem Z3t {x y : Operand} {b c : Bool} {T U : TypeId} (hT : P.underlying T = some .bool) (hg : Z0t ops ρ g = true) (hN : Nat.blt d N = true) (hx : Z0g ρ x = some (.bool b)) (hy : Z0g ρ y = some (.bool c)) (n : RunL P N ops Q rest ((d, .bool (decide (b = c))) :: ρ) w) : RunL P N ops Q (⟨some d, .binOp .eql T x y U, ty, pos, af, g⟩ :: rest) ρ w :=
 Z1n hg rfl hN (fun a ha => by
  have hgd : (eqGuard .eql T x y (.bool b) (.bool c)).run P w = .ok () w := by simp [eqGuard]
  have hb : (b == c) = decide (b = c) := by cases b <;> cases c <;> rfl
  simp only [execOp, ha.eval hx, ha.eval hy, Sem.run_bind, hgd, Result.andThen_ok]
  simp [run_eql_bool, hT, hb]) n
theorem Z4o {x y : Operand} {b c : Bool} {T U : TypeId} (hT : P.underlying T = some .bool) (hg : Z0t ops ρ g = true) (hN : Nat.blt d N = true) (hx : Z0g ρ x = some (.bool b)) (hy : Z0g ρ y = some (.bool c)) (n : RunL P N ops Q rest ((d, .bool (decide (¬ b = c))) :: ρ) w) : RunL P N ops Q (⟨some d, .binOp .neq T x y U, ty, pos, af, g⟩ :: rest) ρ w :=
 Z1n hg rfl hN (fun a ha => by
  have hgd : (eqGuard .neq T x y (.bool b) (.bool c)).run P w = .ok () w := by simp [eqGuard]
  have hb : (b != c) = decide (¬ b = c) := by cases b <;> cases c <;> rfl
  simp only [execOp, ha.eval hx, ha.eval hy, Sem.run_bind, hgd, Result.andThen_ok]
  have hb' : (!(b == c)) = decide (¬ b = c) := hb
  rw [show (binOp .neq T (.bool b) (.bool c)).run P w = _ from run_neq_bool (P := P) (w := w) T b c hT]
  simp only [Result.andThen_ok, Sem.run_pure, hb']) n
theorem Z25 {f : FuncId} {fn : Func} {e : Array Value → Sem Value} {args : List Operand} {vals : List Value} {ats : Array TypeId} {v : Value} (hg : Z0t ops ρ g = true) (hN : Nat.blt d N = true) (hf : P.funcs[f]? = some fn) (hn : (fn.name == "runtime.NumGoroutine") = false) (hb : fn.body.isNone = true) (hnx : Extern.findNext fn = none) (he : Extern.find fn = some e)
  (hv : Z1f ρ args vals) (hr : (e vals.toArray).run P w = .ok v w) (n : RunL P N ops Q rest ((d, v) :: ρ) w) : RunL P N ops Q (⟨some d, .call ⟨.value (.func f), args.toArray, ats⟩, ty, pos, af, g⟩ :: rest) ρ w :=
 Z1n hg rfl hN (fun a ha => by
  have hmap : args.toArray.map a.eval = vals.toArray := by rw [← hv.map ha]; simp
  simp only [execOp, resolve, Act.eval, hmap]
  simp [Deferred.ofValue, invoke, run_callFunc_extern hf hn hb hnx he, hr]) n
def sub64E : Array Value → Sem Value := fun args => do
 let (x, y, b) ← Extern.MathBitsCarry.three "Sub64" args
 pure (Extern.MathBitsCarry.pair ((x + Extern.MathBitsCarry.m64 - y - b) % Extern.MathBitsCarry.m64) (if x < y + b then 1 else 0))
theorem run_sub64i {x y b : Int} (hx : 0 ≤ x ∧ x ≤ 18446744073709551615) (hy : 0 ≤ y ∧ y ≤ 18446744073709551615) (hb : 0 ≤ b ∧ b ≤ 1) (w : World) :
  (sub64E #[.int .u64 x, .int .u64 y, .int .u64 b]).run P w =
   .ok (.tuple #[.int .u64 ((x - y - b) % 18446744073709551616), .int .u64 (if x < y + b then 1 else 0)]) w := by
 obtain ⟨X, rfl⟩ := Int.eq_ofNat_of_zero_le hx.1
 obtain ⟨Y, rfl⟩ := Int.eq_ofNat_of_zero_le hy.1
 obtain ⟨C, rfl⟩ := Int.eq_ofNat_of_zero_le hb.1
 have key : ∀ k : Nat, k ≤ 1 → (sub64E #[.int .u64 X, .int .u64 Y, .int .u64 (k : Int)]).run P w =
   .ok (Extern.MathBitsCarry.pair ((X + Extern.MathBitsCarry.m64 - Y - k) % Extern.MathBitsCarry.m64) (if X < Y + k then 1 else 0)) w := by
  intro k hk
  have : k = 0 ∨ k = 1 := by omega
  rcases this with rfl | rfl <;> rfl
 rw [key C ZO]
 simp only [Extern.MathBitsCarry.pair, Extern.MathBitsCarry.m64]
 congr 4
 ·have : ((Int.ofNat ((X + 2 ^ 64 - Y - C) % 2 ^ 64) : Int)) = ((X : Int) - Y - C) % 18446744073709551616 := by
   rw [Int.ofNat_eq_natCast, Int.natCast_emod]
   omega
  rw [this]
 congr 2
 by_cases h : X < Y + C
 ·rw [if_pos h, if_pos ZO]; rfl
 rw [if_neg h, if_neg ZO]; rfl
end
end Go.Vc
