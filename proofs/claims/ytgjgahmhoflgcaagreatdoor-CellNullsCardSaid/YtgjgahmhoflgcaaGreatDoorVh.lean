/- Arrays of structs: literals, and an element of an array's value. -/
import Derived.Test.YtgjgahmhoflgcaaGreatDoorVg
set_option linter.unusedVariables false
set_option linter.unusedSimpArgs false
namespace Go.Vc
open Go.RowKit
section
variable {P : Program} {N : Nat} {ρ : Env} {w : World}
theorem fill_congr {f g : Nat → Option (Nat × Nat)} : ∀ (ps : List (Nat × Value)) (cs : Array Value), (∀ p ∈ ps, f p.1 = g p.1) → Instr.fill f cs ps = Instr.fill g cs ps
 | [], cs, h => rfl
 | (i, v) :: ps, cs, h => by
  have h1 : f i = g i := h (i, v) (.head _)
  have ih := fun cs => fill_congr ps cs (fun p hp => h p (.tail _ hp))
  simp only [Instr.fill, h1]
  split
  ·rfl
  split
  ·rfl
  exact ih _
theorem Z39.known {pl : List (Nat × Nat)} {cs cs' : List Value} {ps : List (Nat × Operand)} (h : Z39 ρ pl cs ps cs') : ∀ p ∈ ps, ∃ q, pl[p.1]? = some q := by
 induction h with
 | nil => intro p hp; cases hp
 | one hi _ _ _ _ ih =>
  intro p hp
  cases hp with
  | head => exact ⟨_, hi⟩
  | tail _ h => exact ih p h
 | row hi _ _ _ _ ih =>
  intro p hp
  cases hp with
  | head => exact ⟨_, hi⟩
  | tail _ h => exact ih p h
theorem Z6r {Q : Z26} {ops : Array Oper} {rest : List Oper} {d : Nat} {ty : TypeId} {pos : String} {af : Array Edge} {g : Option (Nat × Bool)} {t e : TypeId} {m size : Nat} {parts : List (Nat × Operand)} {pl : List (Nat × Nat)} {zs cs : List Value} (hg : Z0t ops ρ g = true) (hN : Nat.blt d N = true)
  (hT : P.underlying t = some (.array m e)) (hsz : (P.info? e).map (·.size) = some size) (hz : (P.info? t).map (fun i => i.zero.map (·.cells.toList)) = some (some zs)) (hpl : ∀ i q, pl[i]? = some q → q = (i * size, size)) (hp : Z39 ρ pl zs parts cs)
  (n : RunL P N ops Q rest ((d, .agg cs.toArray) :: ρ) w) : RunL P N ops Q (⟨some d, .build t parts.toArray, ty, pos, af, g⟩ :: rest) ρ w :=
 Z1n hg rfl hN (fun a ha => by
  have h2 : (parts.toArray.map fun (p : Nat × Operand) => (p.1, a.eval p.2)) = (parts.map fun p => (p.1, a.eval p.2)).toArray := by simp
  have hf := hp.fill ha
  have hf2 : Instr.fill (fun i => some (i * size, size)) zs.toArray (parts.map fun p => (p.1, a.eval p.2)) = some cs.toArray := by
   rw [← hf]
   refine fill_congr _ _ fun p hp' => ?_
   obtain ⟨p0, h0, rfl⟩ := List.mem_map.1 hp'
   obtain ⟨q, hq⟩ := hp.known p0 h0
   simp only [List.getElem?_toArray, hq, hpl _ _ hq]
  cases hq : P.info? t with
  | none => simp [hq] at hz
  | some inf =>
   cases hzz : inf.zero with
   | none => simp [hq, hzz] at hz
   | some z =>
    have hzs : z.cells = zs.toArray := by
     simp [hq, hzz] at hz
     rw [← hz]
    have hzv : (zeroValue t).run P w = .ok z w := by simp [zeroValue, typeInfo, hq, hzz]
    cases hqe : P.info? e with
    | none => simp [hqe] at hsz
    | some ie =>
     have hes : ie.size = size := by simpa [hqe] using hsz
     have hsv : (sizeOf e).run P w = .ok size w := by simp [sizeOf, typeInfo, hqe, hes]
     simp only [execOp]
     rw [h2]
     simp only [Instr.build, Sem.run_bind, hzv, Result.andThen_ok, run_underlying hT, hsv, hzs, List.toList_toArray, hf2, Sem.run_pure]) n
theorem l_elemA {Q : Z26} {ops : Array Oper} {rest : List Oper} {d : Nat} {ty : TypeId} {pos : String} {af : Array Edge} {g : Option (Nat × Bool)} {x ix : Operand} {cs vs : List Value} {k : IntKind} {i : Int} {j m size : Nat} {T e : TypeId} {fs : Array Field}
  (hg : Z0t ops ρ g = true) (hN : Nat.blt d N = true) (hT : P.underlying T = some (.array m e)) (he : P.underlying e = some (.struct fs)) (hsz : (P.info? e).map (·.size) = some size) (hx : Z0g ρ x = some (.agg cs.toArray)) (hi : Z0g ρ ix = some (.int k i)) (hij : i = (j : Int)) (hb : j < m) (hv : (cs.drop (j * size)).take size = vs)
  (n : RunL P N ops Q rest ((d, .agg vs.toArray) :: ρ) w) : RunL P N ops Q (⟨some d, .index T x ix, ty, pos, af, g⟩ :: rest) ρ w := by
 subst hij
 refine Z1n hg rfl hN (fun a ha => ?_) n
 have hag : (isAgg e).run P w = .ok true w := by simp [isAgg, run_underlying he]
 cases hq : P.info? e with
 | none => simp [hq] at hsz
 | some inf =>
  have h1 : inf.size = size := by simpa [hq] using hsz
  have hsv : (sizeOf e).run P w = .ok size w := by simp [sizeOf, typeInfo, hq, h1]
  simp only [execOp, ha.eval hx, ha.eval hi, Instr.index, asIntOf, Sem.run_bind, Sem.run_pure, Result.andThen_ok, run_underlying hT]
  rw [if_pos ZO]
  simp only [hsv, Sem.run_bind, Sem.run_pure, Result.andThen_ok, Int.toNat_natCast, part, hag, if_true]
  have : cs.toArray.extract (j * size) (j * size + size) = vs.toArray := by
   rw [← hv]
   simp [List.extract_toArray, List.extract_eq_take_drop]
  rw [this]
end
end Go.Vc
