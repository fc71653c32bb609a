/- More rules of the walk: strings, conversions, min and max, functions of Go's library without a body. -/
import Derived.Test.YtgjgahmhoflgcaaGreatDoorVa
import Derived.Lib.ConvBytes
set_option linter.unusedVariables false
set_option linter.unusedSimpArgs false
namespace Go.Vc
open Go.RowKit
theorem str_toList (l : List UInt8) : (⟨l.toArray⟩ : ByteArray).toList = l := ByteArray.toList_mk l
section
variable {P : Program} {N : Nat} {ops : Array Oper} {Q : Z26} {ρ : Env} {w w0 : World} {rest : List Oper} {d : Nat} {ty : TypeId} {pos : String} {af : Array Edge} {g : Option (Nat × Bool)}
  {B : Nat} {M : Nat → Prop} {σ σ' : List As}
theorem Z5f {x : Operand} {l : List UInt8} {T : TypeId} (hg : Z0t ops ρ g = true) (hN : Nat.blt d N = true) (hT : P.underlying T = some .string) (hx : Z0g ρ x = some (str l)) (n : RunL P N ops Q rest ((d, .int .i64 (l.length : Int)) :: ρ) w) : RunL P N ops Q (⟨some d, .call ⟨.builtin .len, #[x], #[T]⟩, ty, pos, af, g⟩ :: rest) ρ w :=
 l_lens hg hN hT hx (by simpa [ByteArray.size] using n)
theorem Z5W {x y : Operand} {k l : List UInt8} {T U : TypeId} (hg : Z0t ops ρ g = true) (hN : Nat.blt d N = true) (hx : Z0g ρ x = some (str k)) (hy : Z0g ρ y = some (str l)) (n : RunL P N ops Q rest ((d, .bool (decide (k = l))) :: ρ) w) : RunL P N ops Q (⟨some d, .binOp .eql T x y U, ty, pos, af, g⟩ :: rest) ρ w :=
 Z1n hg rfl hN (fun a ha => by
  have hgd : (eqGuard .eql T x y (str k) (str l)).run P w = .ok () w := by simp [eqGuard]
  have hb : (k == l) = decide (k = l) := by rw [Bool.eq_iff_iff]; simp
  simp only [execOp, ha.eval hx, ha.eval hy, Sem.run_bind, hgd, Result.andThen_ok]
  simp [binOp, Op.stringOp, str_toList, hb]) n
theorem run_strbounds (m l h : Nat) (pl ph : Option (IntKind × Int)) (el : ((pl.map (·.2)).getD 0) = (l : Int)) (eh : ((ph.map (·.2)).getD (m : Int)) = (h : Int)) (hlh : l ≤ h) (hhm : h ≤ m) :
  (Instr.sliceBounds false m m (bv pl) (bv ph) none).run P w = .ok (l, h, m) w := by
 cases ph with
 | none =>
  have : h = m := by simp at eh; omega
  subst this
  cases pl with
  | none =>
   have : l = 0 := by simp at el; omega
   subst this
   simp [Instr.sliceBounds, bv]
  | some p =>
   obtain ⟨k, i⟩ := p
   simp only [Option.map_some, Option.getD_some] at el
   subst el
   simp [Instr.sliceBounds, Instr.sliceBound, bv, asIntOf, hlh]
 | some p =>
  obtain ⟨k, i⟩ := p
  simp only [Option.map_some, Option.getD_some] at eh
  subst eh
  cases pl with
  | none =>
   have : l = 0 := by simp at el; omega
   subst this
   simp [Instr.sliceBounds, Instr.sliceBound, bv, asIntOf, hhm]
  | some p =>
   obtain ⟨k', i'⟩ := p
   simp only [Option.map_some, Option.getD_some] at el
   subst el
   simp [Instr.sliceBounds, Instr.sliceBound, bv, asIntOf, hlh, hhm]
theorem Z76 {x : Operand} {lo hi : Option Operand} {s : List UInt8} {T : TypeId} {l h : Nat} {rl rh : Option Int} (hg : Z0t ops ρ g = true) (hN : Nat.blt d N = true) (hT : P.underlying T = some .string)
  (hx : Z0g ρ x = some (str s)) (hl : Z2j ρ lo = some rl) (hh : Z2j ρ hi = some rh) (el : (rl.getD 0) = (l : Int)) (eh : (rh.getD (s.length : Int)) = (h : Int)) (hlh : l ≤ h) (hhm : h ≤ s.length)
  (n : RunL P N ops Q rest ((d, str ((s.take h).drop l)) :: ρ) w) : RunL P N ops Q (⟨some d, .slice T x lo hi none, ty, pos, af, g⟩ :: rest) ρ w :=
 Z1n hg rfl hN (fun a ha => by
  obtain ⟨pl, rfl, e1⟩ := Z3G ha hl
  obtain ⟨ph, rfl, e2⟩ := Z3G ha hh
  have key := run_strbounds (P := P) (w := w) s.length l h pl ph el eh hlh hhm
  have hsz : (⟨s.toArray⟩ : ByteArray).size = s.length := by simp [ByteArray.size]
  have hex : (⟨s.toArray⟩ : ByteArray).extract l h = ⟨((s.take h).drop l).toArray⟩ := by
   apply ByteArray.ext
   rw [ByteArray.data_extract]
   apply Array.ext'
   simp [List.extract_eq_take_drop, List.drop_take]
  simp only [execOp, ha.eval hx, e1, e2, Option.map_none]
  simp [Instr.sliceAt, Instr.slice, run_underlying hT, hsz, key, hex]) n
theorem foldl_push (l : List UInt8) : ∀ (r : List UInt8), ((l.map (fun b => ((b.toNat : Nat) : Int))).foldl (fun (r : ByteArray) n => r.push (UInt8.ofNat n.toNat)) ⟨r.toArray⟩) = ⟨(r ++ l).toArray⟩ := by
 induction l with
 | nil => intro r; simp
 | cons b l ih =>
  intro r
  have : (ByteArray.mk r.toArray).push (UInt8.ofNat ((b.toNat : Nat) : Int).toNat) = ⟨(r ++ [b]).toArray⟩ := by
   simp only [Int.toNat_natCast]
   have hb : UInt8.ofNat b.toNat = b := by simp
   rw [hb]
   show ByteArray.mk (r.toArray.push b) = _
   simp
  simp only [List.map_cons, List.foldl_cons, this]
  rw [ih]
  simp
theorem l_tostr {x : Operand} {A : Option Addr} {c : Nat} {S T e : TypeId} {l : List UInt8} (hg : Z0t ops ρ g = true) (hN : Nat.blt d N = true) (hS : P.underlying S = some (.slice e)) (he : P.underlying e = some (.int .u8)) (hT : P.underlying T = some .string)
  (hx : Z0g ρ x = some (.slice A l.length c)) (hs : Sl w A (bys l)) (n : RunL P N ops Q rest ((d, str l) :: ρ) w) : RunL P N ops Q (⟨some d, .convert S T x, ty, pos, af, g⟩ :: rest) ρ w :=
 Z1n hg rfl hN (fun a ha => by
  have hc := run_convert_bytes_string (P := P) w S T e A l.length c hS he hT
  cases A with
  | none =>
   have : l = [] := by
    cases l with
    | nil => rfl
    | cons b l => obtain ⟨ad, h, _⟩ := hs 0 _ rfl; cases h
   subst this
   have : (Conv.bytesToString (.slice none 0 c)).run P w = .ok (str []) w := by simp [Conv.bytesToString]; rfl
   simp only [List.length_nil] at hc
   simp [execOp, ha.eval hx, hc, this]
  | some ad =>
   have hl : (loadCells ad l.length).run P w = .ok ((l.map (fun b => ((b.toNat : Nat) : Int))).map (Value.int .u8)).toArray w := by
    have := run_loadCells_list (P := P) w ad (bys l) fun j v hj => by
     obtain ⟨ad', h, hcell⟩ := hs j v hj
     cases h
     exact hcell
    simpa [bys, Function.comp_def] using this
   have hb := run_bytesToString (P := P) w ad l.length c _ hl
   have hf := foldl_push l []
   simp only [List.nil_append] at hf
   have he' : (ByteArray.empty : ByteArray) = ⟨([] : List UInt8).toArray⟩ := rfl
   rw [he', hf] at hb
   simp [execOp, ha.eval hx, hc, hb]) n
theorem Z5T {x y : Operand} {k : IntKind} {m q : Int} {ats : Array TypeId} (hg : Z0t ops ρ g = true) (hN : Nat.blt d N = true) (hx : Z0g ρ x = some (.int k m)) (hy : Z0g ρ y = some (.int k q)) (n : RunL P N ops Q rest ((d, .int k (max m q)) :: ρ) w) : RunL P N ops Q (⟨some d, .call ⟨.builtin .max, #[x, y], ats⟩, ty, pos, af, g⟩ :: rest) ρ w :=
 Z1n hg rfl hN (fun a ha => by
  have : (if m < q then q else m) = max m q := by omega
  simp [execOp, ha.eval hx, ha.eval hy, resolve, invoke, builtin, Builtin.max_, Builtin.max2, this]) n
theorem l_min {x y : Operand} {k : IntKind} {m q : Int} {ats : Array TypeId} (hg : Z0t ops ρ g = true) (hN : Nat.blt d N = true) (hx : Z0g ρ x = some (.int k m)) (hy : Z0g ρ y = some (.int k q)) (n : RunL P N ops Q rest ((d, .int k (min m q)) :: ρ) w) : RunL P N ops Q (⟨some d, .call ⟨.builtin .min, #[x, y], ats⟩, ty, pos, af, g⟩ :: rest) ρ w :=
 Z1n hg rfl hN (fun a ha => by
  have : (if q < m then q else m) = min m q := by omega
  simp [execOp, ha.eval hx, ha.eval hy, resolve, invoke, builtin, Builtin.min_, Builtin.min2, this]) n
theorem Z25 {f : FuncId} {fn : Func} {e : Array Value → Sem Value} {args : List Operand} {vals : List Value} {ats : Array TypeId} {v : Value} (hg : Z0t ops ρ g = true) (hN : Nat.blt d N = true) (hf : P.funcs[f]? = some fn) (hn : (fn.name == "runtime.NumGoroutine") = false) (hb : fn.body.isNone = true) (hnx : Extern.findNext fn = none) (he : Extern.find fn = some e)
  (hv : Z1f ρ args vals) (hr : (e vals.toArray).run P w = .ok v w) (n : RunL P N ops Q rest ((d, v) :: ρ) w) : RunL P N ops Q (⟨some d, .call ⟨.value (.func f), args.toArray, ats⟩, ty, pos, af, g⟩ :: rest) ρ w :=
 Z1n hg rfl hN (fun a ha => by
  have hmap : args.toArray.map a.eval = vals.toArray := by rw [← hv.map ha]; simp
  simp only [execOp, resolve, Act.eval, hmap]
  simp [Deferred.ofValue, invoke, run_callFunc_extern hf hn hb hnx he, hr]) n
def sub64E : Array Value → Sem Value := fun args => do
 let (x, y, b) ← Extern.MathBitsCarry.three "Sub64" args
 pure (Extern.MathBitsCarry.pair ((x + Extern.MathBitsCarry.m64 - y - b) % Extern.MathBitsCarry.m64) (if x < y + b then 1 else 0))
theorem Z5Q {x y b : Int} (hx : 0 ≤ x ∧ x ≤ 18446744073709551615) (hy : 0 ≤ y ∧ y ≤ 18446744073709551615) (hb : 0 ≤ b ∧ b ≤ 1) (w : World) :
  (sub64E #[.int .u64 x, .int .u64 y, .int .u64 b]).run P w =
   .ok (.tuple #[.int .u64 ((x - y - b) % 18446744073709551616), .int .u64 (if x < y + b then 1 else 0)]) w := by
 obtain ⟨X, rfl⟩ := Int.eq_ofNat_of_zero_le hx.1
 obtain ⟨Y, rfl⟩ := Int.eq_ofNat_of_zero_le hy.1
 obtain ⟨C, rfl⟩ := Int.eq_ofNat_of_zero_le hb.1
 have key : ∀ k : Nat, k ≤ 1 → (sub64E #[.int .u64 X, .int .u64 Y, .int .u64 (k : Int)]).run P w =
   .ok (Extern.MathBitsCarry.pair ((X + Extern.MathBitsCarry.m64 - Y - k) % Extern.MathBitsCarry.m64) (if X < Y + k then 1 else 0)) w := by
  intro k hk
  have : k = 0 ∨ k = 1 := by omega
  rcases this with rfl | rfl <;> rfl
 rw [key C ZO]
 simp only [Extern.MathBitsCarry.pair, Extern.MathBitsCarry.m64]
 congr 4
 ·have : ((Int.ofNat ((X + 2 ^ 64 - Y - C) % 2 ^ 64) : Int)) = ((X : Int) - Y - C) % 18446744073709551616 := by
   rw [Int.ofNat_eq_natCast, Int.natCast_emod]
   omega
  rw [this]
 congr 2
 by_cases h : X < Y + C
 ·rw [if_pos h, if_pos ZO]; rfl
 rw [if_neg h, if_neg ZO]; rfl
end
end Go.Vc
