/- One rule for each operation of the walk: what it yields, in a frame of live slots, over separate rows of the heap. -/
import Derived.Test.YtgjgahmhoflgcaaGreatDoorVc
set_option linter.unusedVariables false
set_option linter.unusedSimpArgs false
namespace Go.Vc
open Go.RowKit
theorem ZO {p : Prop} (h : p := by omega) : p := h
theorem ZK {p : Prop} (h : p := by kernel_rfl) : p := h
theorem ZA {p : Prop} (h : p := by assumption) : p := h
theorem ZN {p : Prop} (h : p := by first | rfl | (refine congrArg (Value.int _) ?_; omega)) : p := h
theorem ZI {p : Prop} (h : p := by first | omega | (simp; done) | (simp; omega)) : p := h
theorem ZR {p : Prop} (h : p := by first | rfl | assumption) : p := h
theorem ZD {p : Prop} (h : p := by first | rfl | (simp; done) | (simp; omega)) : p := h
theorem ZB {p : Prop} (h : p := by first | rfl | omega | (simp; done) | (simp; omega)) : p := h
theorem ZP {p : Prop} (h : p := by first | rfl | omega) : p := h
theorem ZC {p : Prop} (h : p := by first | (simp [Value.oneCell']; done) | (intro u hu; simp only [List.mem_cons, List.not_mem_nil, or_false] at hu; (repeat' (rcases hu with rfl | hu)) <;> first | rfl | assumption | (subst hu; first | rfl | assumption))) : p := h
/-! ### words -/
def Sl (w : World) (A : Option Addr) (cs : List Value) : Prop := ∀ j v, cs[j]? = some v → ∃ ad, A = some ad ∧ w.cell? (ad.add j) = some v
abbrev ints (k : IntKind) (l : List Int) : List Value := l.map (Value.int k)
abbrev bys (l : List UInt8) : List Value := l.map (fun b => Value.int .u8 (b.toNat : Int))
abbrev str (l : List UInt8) : Value := .string ⟨l.toArray⟩
theorem Z2p (g o j : Nat) : (⟨g, o, none⟩ : Addr).add j = ⟨g, o + j, none⟩ := by
 unfold Addr.add; split <;> simp_all
theorem Z3U (a : Addr) (i j : Nat) : (a.add i).add j = a.add (i + j) := by
 unfold Addr.add
 by_cases hi : i = 0 <;> by_cases hj : j = 0 <;> simp [hi, hj, Nat.add_assoc]
theorem Z4a (a : Addr) (n : Nat) : (a.add n).block = a.block := by unfold Addr.add; split <;> rfl
section
variable {w0 w w' : World} {B : Nat} {M : Nat → Prop} {σ σ' : List As} {A : Option Addr} {cs ds : List Value}
theorem Sl.nil (w : World) (A : Option Addr) : Sl w A [] := fun j v h => by simp at h
theorem Sl.mono (h : Sl w A cs) (hb : ∀ k, k < w.heap.size → w'.heap[k]? = w.heap[k]?) : Sl w' A cs := fun j v hj => by
 obtain ⟨ad, e, hc⟩ := h j v hj
 refine ⟨ad, e, ?_⟩
 rw [World.cell?_of_block (w := w) (hb _ (World.block_lt_of_cell? w _ hc))]
 exact hc
theorem Sl.drop (h : Sl w A cs) (i : Nat) : Sl w (A.map (·.add i)) (cs.drop i) := fun j v hj => by
 rw [List.getElem?_drop] at hj
 obtain ⟨ad, e, hc⟩ := h _ v hj
 exact ⟨ad.add i, by rw [e]; rfl, by rw [Z3U]; exact hc⟩
theorem Sl.take (h : Sl w A cs) (n : Nat) : Sl w A (cs.take n) := fun j v hj => by
 rw [List.getElem?_take] at hj
 split at hj
 ·exact h j v hj
 cases hj
theorem Sl.some_ (h : Sl w A cs) (hn : 0 < cs.length) : ∃ ad, A = some ad := by
 obtain ⟨ad, e, _⟩ := h 0 cs[0] (by simp)
 exact ⟨ad, e⟩
theorem Sl.sub (h : Sl w A cs) (hcs : ∀ (j : Nat) (v : Value), ds[j]? = some v → cs[j]? = some v) : Sl w A ds := fun j v hj => h j v (hcs j v hj)
theorem Z1M {g : Nat} {E : TypeId} {cs : List Value} (h : (As.blk g E cs).ok w) : Sl w (some ⟨g, 0, none⟩) cs := fun j v hj => by
 refine ⟨_, rfl, ?_⟩
 rw [Z2p, cell_of_row w g _ cs.toArray E (0, 0) h]
 simpa using hj
theorem St.blk {g : Nat} {E : TypeId} {cs : List Value} (hw : St w0 B M σ w) (hm : As.blk g E cs ∈ σ) : Sl w (some ⟨g, 0, none⟩) cs := Z1M (hw.ok hm)
theorem row_sl {A : Option Addr} {E : TypeId} {size n c : Nat} {cs : List Value} (h : (As.row E size (.slice A n c) n cs).ok w) : Sl w A cs := fun j v hj => by
 rcases h.2 with ⟨hv, hn⟩ | ⟨g, cap, cur, hv, _⟩
 ·have := h.1
  subst hn
  have : cs = [] := List.eq_nil_of_length_eq_zero (by simpa using this)
  subst this
  simp at hj
 injection hv with hA
 subst hA
 exact ⟨_, rfl, h.cells rfl j v hj⟩
theorem St.row {A : Option Addr} {E : TypeId} {size n c : Nat} {cs : List Value} (hw : St w0 B M σ w) (hm : As.row E size (.slice A n c) n cs ∈ σ) : Sl w A cs := row_sl (hw.ok hm)
theorem mem0 {α : Type} {a : α} {l : List α} : a ∈ a :: l := .head _
theorem mem1 {α : Type} {a b : α} {l : List α} : a ∈ b :: a :: l := .tail _ (.head _)
theorem mem2 {α : Type} {a b c : α} {l : List α} : a ∈ b :: c :: a :: l := .tail _ (.tail _ (.head _))
theorem mem3 {α : Type} {a b c d : α} {l : List α} : a ∈ b :: c :: d :: a :: l := .tail _ (.tail _ (.tail _ (.head _)))
theorem mem4 {α : Type} {a b c d e : α} {l : List α} : a ∈ b :: c :: d :: e :: a :: l := .tail _ (.tail _ (.tail _ (.tail _ (.head _))))
inductive Upd : List As → As → As → List As → Prop
 | head {A A' : As} {σ : List As} : Upd (A :: σ) A A' (A' :: σ)
 | tail {A A' X : As} {σ σ' : List As} (h : Upd σ A A' σ') : Upd (X :: σ) A A' (X :: σ')
inductive Del : List As → List As → Prop
 | head {A : As} {σ : List As} : Del (A :: σ) σ
 | tail {X : As} {σ σ' : List As} (h : Del σ σ') : Del (X :: σ) (X :: σ')
theorem Del.sub {σ σ' : List As} (h : Del σ σ') : ∀ A ∈ σ', A ∈ σ := by
 induction h with
 | head => exact fun A hA => .tail _ hA
 | tail _ ih =>
  intro A hA
  cases hA with
  | head => exact .head _
  | tail _ ht => exact .tail _ (ih A ht)
theorem Del.sep {σ σ' : List As} (h : Del σ σ') (hs : Sep B M w σ) : Sep B M w σ' := by
 induction h with
 | head => exact hs.2.2.2
 | tail hd ih => exact ⟨hs.1, hs.2.1, fun A' hA' => hs.2.2.1 A' (hd.sub A' hA'), ih hs.2.2.2⟩
theorem St.del (h : Del σ σ') (hw : St w0 B M σ w) : St w0 B M σ' w := ⟨hw.ext, hw.base, h.sep hw.sep⟩
theorem Upd.mem {A A' : As} {σ σ' : List As} (u : Upd σ A A' σ') : A ∈ σ := by
 induction u with
 | head => exact .head _
 | tail _ ih => exact .tail _ ih
theorem Upd.sub {A A' : As} {σ σ' : List As} (u : Upd σ A A' σ') : ∀ X ∈ σ', X = A' ∨ X ∈ σ := by
 induction u with
 | head =>
  intro X hX
  cases hX with
  | head => exact .inl rfl
  | tail _ ht => exact .inr (.tail _ ht)
 | tail _ ih =>
  intro X hX
  cases hX with
  | head => exact .inr (.head _)
  | tail _ ht => exact (ih X ht).imp id fun h => .tail _ h
theorem Upd.sep {A A' : As} {σ σ' : List As} (u : Upd σ A A' σ') (hs : Sep B M w σ) (hsz : w.heap.size ≤ w'.heap.size)
  (hx : ∀ k, k < w.heap.size → ¬ A.fp k → w'.heap[k]? = w.heap[k]?) (ok : A'.ok w') (fp : ∀ k, A'.fp k → (A.fp k ∨ w.heap.size ≤ k) ∧ k < w'.heap.size) (hB : B ≤ w.heap.size) : Sep B M w' σ' := by
 induction u with
 | @head A A' σ =>
  refine ⟨ok, fun k hk => ⟨?_, (fp k hk).2⟩, fun X hX k hk hk' => ?_, hs.2.2.2.keep hsz fun X hX k hk => hx k (hs.2.2.2.lt hX k hk).2 (fun h => hs.2.2.1 X hX k h hk)⟩
  ·rcases (fp k hk).1 with h | h
   ·exact (hs.2.1 k h).1
   exact .inl (by omega)
  have hl := (hs.2.2.2.lt hX k hk').2
  rcases (fp k hk).1 with h | h
  ·exact hs.2.2.1 X hX k h hk'
  omega
 | @tail A A' X σ σ' u ih =>
  have hXA : ∀ k, X.fp k → ¬ A.fp k := hs.2.2.1 A u.mem
  refine ⟨X.loc w w' (fun k hk => hx k (hs.2.1 k hk).2 (hXA k hk)) hs.1, fun k hk => ⟨(hs.2.1 k hk).1, Nat.lt_of_lt_of_le (hs.2.1 k hk).2 hsz⟩, fun Y hY k hk hk' => ?_, ih hs.2.2.2 hx ok fp⟩
  rcases u.sub Y hY with rfl | h
  ·have hl := (hs.2.1 k hk).2
   rcases (fp k hk').1 with h | h
   ·exact hXA k hk h
   omega
  exact hs.2.2.1 Y h k hk hk'
theorem St.upd {A A' : As} {σ' : List As} (u : Upd σ A A' σ') (hw : St w0 B M σ w) (hx : Ext w.heap.size A.fp w w') (ok : A'.ok w') (fp : ∀ k, A'.fp k → (A.fp k ∨ w.heap.size ≤ k) ∧ k < w'.heap.size) : St w0 B M σ' w' :=
 ⟨hw.ext.trans ⟨hx.os, hx.tape, hx.output, hx.size, fun k hk hm => hx.block k (by have := hw.base; omega) (fun h => by
   rcases (hw.sep.lt u.mem k h).1 with h' | h'
   ·omega
   exact hm h')⟩, Nat.le_trans hw.base hx.size, u.sep hw.sep hx.size hx.block ok fp hw.base⟩
theorem St.as {A A' : As} {σ' : List As} (u : Upd σ A A' σ') (hw : St w0 B M σ w) (hfp : ∀ k, A'.fp k → A.fp k) (hok : ∀ w, A.ok w → A'.ok w) : St w0 B M σ' w :=
 hw.upd u (.refl _ _ _) (hok _ (hw.ok u.mem)) fun k hk => ⟨.inl (hfp k hk), (hw.sep.lt u.mem k (hfp k hk)).2⟩
end
/-! ### the rule behind the rules -/
def Z0t (ops : Array Oper) (ρ : Env) : Option (Nat × Bool) → Bool
 | none => true
 | some (j, t) => match ((ops[j]?).bind (·.dst)).bind ρ.get with
  | some (.bool b) => b == t
  | _ => false
inductive Z1f (ρ : Env) : List Operand → List Value → Prop
 | nil : Z1f ρ [] []
 | cons {x : Operand} {v : Value} {xs : List Operand} {vs : List Value} (h : Z0g ρ x = some v) (t : Z1f ρ xs vs) : Z1f ρ (x :: xs) (v :: vs)
theorem Z1f.map {N : Nat} {ρ : Env} {a : Act} (ha : Fits N ρ a) {xs : List Operand} {vs : List Value} (h : Z1f ρ xs vs) : xs.map a.eval = vs := by
 induction h with
 | nil => rfl
 | cons h _ ih => rw [List.map_cons, ha.eval h, ih]
inductive Z2T (ρ : Env) : List (Nat × Operand) → List (Nat × Value) → Prop
 | nil : Z2T ρ [] []
 | cons {i : Nat} {x : Operand} {v : Value} {xs : List (Nat × Operand)} {vs : List (Nat × Value)} (h : Z0g ρ x = some v) (t : Z2T ρ xs vs) : Z2T ρ ((i, x) :: xs) ((i, v) :: vs)
theorem Z2T.map {N : Nat} {ρ : Env} {a : Act} (ha : Fits N ρ a) {xs : List (Nat × Operand)} {vs : List (Nat × Value)} (h : Z2T ρ xs vs) : xs.map (fun p => (p.1, a.eval p.2)) = vs := by
 induction h with
 | nil => rfl
 | cons h _ ih => rw [List.map_cons, ha.eval h, ih]
section
variable {P : Program} {N : Nat} {ops : Array Oper} {Q : Z26} {ρ : Env} {w : World} {rest : List Oper} {d : Nat} {ty : TypeId} {pos : String} {af : Array Edge} {g : Option (Nat × Bool)}
theorem Z1X {a : Act} (ha : Fits N ρ a) {o : Oper} (h : Z0t ops ρ o.guard = true) : Region.wanted o (yielded ops a.tmps) = true := by
 unfold Region.wanted
 cases hg : o.guard with
 | none => rfl
 | some p =>
  obtain ⟨j, t⟩ := p
  rw [hg] at h
  simp only [Z0t] at h
  cases hd : (ops[j]?).bind (·.dst) with
  | none => rw [hd] at h; simp at h
  | some s =>
   rw [hd] at h
   simp only [Option.bind_some] at h
   cases hv : ρ.get s with
   | none => rw [hv] at h; simp at h
   | some v =>
    rw [hv] at h
    have := ha.2.2 s v hv
    cases v <;> simp_all [yielded]
theorem lst_step {o : Oper} {v : Value} {a : Act} {w' : World} (hw : Region.wanted o (yielded ops a.tmps) = true) (hq : Q.still = true → w' = w) (h : (execOp a.eval o).run P w = .ok (.value v) w') (n : lst P ops Q rest (a.put o.dst v) w') : lst P ops Q (o :: rest) a w := by
 unfold lst at n ⊢
 cases hs : Q.still with
 | false =>
  rw [hs] at n
  simp only [cond_false] at n ⊢
  unfold wpList
  rw [if_pos hw]
  refine .inl ?_
  unfold Oper.wp
  rw [h, Oper.upon_value]
  exact n
 | true =>
  rw [hs] at n
  obtain rfl := hq hs
  simp only [cond_true] at n ⊢
  unfold wpStill
  rw [if_pos hw]
  unfold Oper.still
  rw [h, Oper.stillUpon_value]
  exact n
theorem lst_skip {o : Oper} {a : Act} (hw : Region.wanted o (yielded ops a.tmps) = false) (n : lst P ops Q rest (a.put o.dst undef) w) : lst P ops Q (o :: rest) a w := by
 unfold lst at n ⊢
 cases hs : Q.still with
 | false =>
  rw [hs] at n
  simp only [cond_false] at n ⊢
  unfold wpList
  rw [if_neg (by rw [hw]; simp)]
  exact n
 | true =>
  rw [hs] at n
  simp only [cond_true] at n ⊢
  unfold wpStill
  rw [if_neg (by rw [hw]; simp)]
  exact n
theorem Z2k {o : Oper} {v : Value} {w' : World} (hq : Q.still = true → w' = w) (hg : Z0t ops ρ o.guard = true) (hd : o.dst = some d) (hN : Nat.blt d N = true)
  (h : ∀ a, Fits N ρ a → (execOp a.eval o).run P w = .ok (.value v) w') (n : RunL P N ops Q rest ((d, v) :: ρ) w') : RunL P N ops Q (o :: rest) ρ w := fun a ha =>
 lst_step (Z1X ha hg) hq (h a ha) (by rw [hd]; exact n _ (ha.put d hN v))
theorem Z1n {o : Oper} {v : Value} (hg : Z0t ops ρ o.guard = true) (hd : o.dst = some d) (hN : Nat.blt d N = true)
  (h : ∀ a, Fits N ρ a → (execOp a.eval o).run P w = .ok (.value v) w) (n : RunL P N ops Q rest ((d, v) :: ρ) w) : RunL P N ops Q (o :: rest) ρ w := Z2k (fun _ => rfl) hg hd hN h n
theorem l_unit {Q : Post} {o : Oper} {w' : World} (hg : Z0t ops ρ o.guard = true) (hd : o.dst = none)
  (h : ∀ a, Fits N ρ a → (execOp a.eval o).run P w = .ok .skip w') (n : RunL P N ops ⟨false, Q⟩ rest ρ w') : RunL P N ops ⟨false, Q⟩ (o :: rest) ρ w := fun a ha => by
 show wpList P ops Q (o :: rest) a w
 unfold wpList
 rw [if_pos (Z1X ha hg)]
 refine .inl ?_
 unfold Oper.wp
 rw [h a ha, Oper.upon_skip, hd]
 exact n _ ha
theorem Z0j {s : Nat} {v v' : Value} {l : List Oper} (hv : ρ.get s = some v) (e : v = v') (n : RunL P N ops Q l ((s, v') :: ρ) w) : RunL P N ops Q l ρ w := fun a ha =>
 n a ⟨ha.1, ha.2.1, fun t u ht => by
  rw [Env.get_cons] at ht
  split at ht
  ·rename_i es; subst es; cases ht; exact ha.2.2 _ _ (e ▸ hv)
  exact ha.2.2 t u ht⟩
/-! ### operations without memory -/
theorem l_move {x : Operand} {v : Value} (hg : Z0t ops ρ g = true) (hN : Nat.blt d N = true) (hv : Z0g ρ x = some v) (n : RunL P N ops Q rest ((d, v) :: ρ) w) : RunL P N ops Q (⟨some d, .move x, ty, pos, af, g⟩ :: rest) ρ w :=
 Z1n hg rfl hN (fun a ha => by simp [execOp, ha.eval hv]) n
theorem l_assign {x : Operand} {v : Value} (hg : Z0t ops ρ g = true) (hN : Nat.blt d N = true) (hv : Z0g ρ x = some v) (n : RunL P N ops Q rest ((d, v) :: ρ) w) : RunL P N ops Q (⟨some d, .assign x, ty, pos, af, g⟩ :: rest) ρ w :=
 Z1n hg rfl hN (fun a ha => by simp [execOp, ha.eval hv]) n
theorem Z1l {c x y : Operand} {v : Value} (hg : Z0t ops ρ g = true) (hN : Nat.blt d N = true) (hc : Z0g ρ c = some (.bool true)) (hv : Z0g ρ x = some v) (n : RunL P N ops Q rest ((d, v) :: ρ) w) : RunL P N ops Q (⟨some d, .pick c x y, ty, pos, af, g⟩ :: rest) ρ w :=
 Z1n hg rfl hN (fun a ha => by simp [execOp, ha.eval hv, ha.eval hc, asBool]) n
theorem Z0Z {c x y : Operand} {v : Value} (hg : Z0t ops ρ g = true) (hN : Nat.blt d N = true) (hc : Z0g ρ c = some (.bool false)) (hv : Z0g ρ y = some v) (n : RunL P N ops Q rest ((d, v) :: ρ) w) : RunL P N ops Q (⟨some d, .pick c x y, ty, pos, af, g⟩ :: rest) ρ w :=
 Z1n hg rfl hN (fun a ha => by simp [execOp, ha.eval hv, ha.eval hc, asBool]) n
theorem l_extract {x : Operand} {vs : Array Value} {i : Nat} {v : Value} (hg : Z0t ops ρ g = true) (hN : Nat.blt d N = true) (hx : Z0g ρ x = some (.tuple vs)) (hv : vs[i]? = some v) (n : RunL P N ops Q rest ((d, v) :: ρ) w) : RunL P N ops Q (⟨some d, .extract x i, ty, pos, af, g⟩ :: rest) ρ w :=
 Z1n hg rfl hN (fun a ha => by simp [execOp, ha.eval hx, Instr.extract, hv]) n
theorem Zm {x : Operand} {v : Value} (n : RunL P N ops Q rest ((d, v) :: ρ) w) (hg : Z0t ops ρ g = true := by exact rfl) (hN : Nat.blt d N = true := by exact rfl) (hv : Z0g ρ x = some v := by exact rfl) : RunL P N ops Q (⟨some d, .move x, ty, pos, af, g⟩ :: rest) ρ w := l_move hg hN hv n
theorem Zg {x : Operand} {v : Value} (n : RunL P N ops Q rest ((d, v) :: ρ) w) (hg : Z0t ops ρ g = true := by exact rfl) (hN : Nat.blt d N = true := by exact rfl) (hv : Z0g ρ x = some v := by exact rfl) : RunL P N ops Q (⟨some d, .assign x, ty, pos, af, g⟩ :: rest) ρ w := l_assign hg hN hv n
theorem Zx {x : Operand} {vs : Array Value} {i : Nat} {v : Value} (n : RunL P N ops Q rest ((d, v) :: ρ) w) (hg : Z0t ops ρ g = true := by exact rfl) (hN : Nat.blt d N = true := by exact rfl) (hx : Z0g ρ x = some (.tuple vs) := by exact rfl) (hv : vs[i]? = some v := by exact rfl) : RunL P N ops Q (⟨some d, .extract x i, ty, pos, af, g⟩ :: rest) ρ w := l_extract hg hN hx hv n
theorem Z0b {x : Operand} {ad : Addr} (hg : Z0t ops ρ g = true) (hN : Nat.blt d N = true) (hx : Z0g ρ x = some (.pointer (some ad))) (n : RunL P N ops Q rest ((d, .pointer (some ad)) :: ρ) w) : RunL P N ops Q (⟨some d, .nilCheck x, ty, pos, af, g⟩ :: rest) ρ w :=
 Z1n hg rfl hN (fun a ha => by simp [execOp, ha.eval hx]) n
theorem Z3v {x : Operand} {b : Bool} {T : TypeId} (hg : Z0t ops ρ g = true) (hN : Nat.blt d N = true) (hx : Z0g ρ x = some (.bool b)) (n : RunL P N ops Q rest ((d, .bool (!b)) :: ρ) w) : RunL P N ops Q (⟨some d, .unOp .not T x, ty, pos, af, g⟩ :: rest) ρ w :=
 Z1n hg rfl hN (fun a ha => by simp [execOp, ha.eval hx, Op.unary]) n
theorem Z38 {x : Operand} {p : Prop} {_ : Decidable p} {T : TypeId} (hg : Z0t ops ρ g = true) (hN : Nat.blt d N = true) (hx : Z0g ρ x = some (.bool (decide p))) (n : RunL P N ops Q rest ((d, .bool (decide (¬ p))) :: ρ) w) : RunL P N ops Q (⟨some d, .unOp .not T x, ty, pos, af, g⟩ :: rest) ρ w :=
 Z1n hg rfl hN (fun a ha => by simp [execOp, ha.eval hx, Op.unary]) n
theorem Z5M {x : Operand} {k : IntKind} {m r : Int} {T : TypeId} (hg : Z0t ops ρ g = true) (hN : Nat.blt d N = true) (hx : Z0g ρ x = some (.int k m)) (hr : k.wrap (0 - m) = r) (n : RunL P N ops Q rest ((d, .int k r) :: ρ) w) : RunL P N ops Q (⟨some d, .unOp .neg T x, ty, pos, af, g⟩ :: rest) ρ w :=
 Z1n hg rfl hN (fun a ha => by simp [execOp, ha.eval hx, Op.unary, Op.intArith, ← hr]) n
theorem Z2q {b : BinOp} {x y : Operand} {k : IntKind} {m q : Int} {v : Value} {T U : TypeId} (hb : (match b with | .eql | .neq | .shl | .shr => false | _ => true) = true) (hg : Z0t ops ρ g = true) (hN : Nat.blt d N = true) (hx : Z0g ρ x = some (.int k m)) (hy : Z0g ρ y = some (.int k q))
  (hr : (match b with
   | .add | .sub | .mul => Op.intArith b k m q
   | .quo | .rem => Op.intDiv b k m q
   | .and | .or | .xor | .andNot => Op.intBits b k m q
   | _ => Op.intCmp b m q).run P w = .ok v w) (n : RunL P N ops Q rest ((d, v) :: ρ) w) : RunL P N ops Q (⟨some d, .binOp b T x y U, ty, pos, af, g⟩ :: rest) ρ w :=
 Z1n hg rfl hN (fun a ha => by
  have hgd : (eqGuard b T x y (.int k m) (.int k q)).run P w = .ok () w := by cases b <;> simp_all [eqGuard]
  simp only [execOp, ha.eval hx, ha.eval hy, Sem.run_bind, hgd, Result.andThen_ok]
  have : (binOp b T (.int k m) (.int k q)).run P w = .ok v w := by
   cases b <;> simp_all [binOp]
  simp [this]) n
theorem Z0y {x y : Operand} {k : IntKind} {m q r : Int} {T U : TypeId} (hg : Z0t ops ρ g = true) (hN : Nat.blt d N = true) (hx : Z0g ρ x = some (.int k m)) (hy : Z0g ρ y = some (.int k q)) (hr : k.wrap (m + q) = r) (n : RunL P N ops Q rest ((d, .int k r) :: ρ) w) : RunL P N ops Q (⟨some d, .binOp .add T x y U, ty, pos, af, g⟩ :: rest) ρ w :=
 Z2q rfl hg hN hx hy (by simp [Op.intArith, hr]) n
theorem Z0W {x y : Operand} {k : IntKind} {m q r : Int} {T U : TypeId} (hg : Z0t ops ρ g = true) (hN : Nat.blt d N = true) (hx : Z0g ρ x = some (.int k m)) (hy : Z0g ρ y = some (.int k q)) (hr : k.wrap (m - q) = r) (n : RunL P N ops Q rest ((d, .int k r) :: ρ) w) : RunL P N ops Q (⟨some d, .binOp .sub T x y U, ty, pos, af, g⟩ :: rest) ρ w :=
 Z2q rfl hg hN hx hy (by simp [Op.intArith, hr]) n
theorem Z20 {x y : Operand} {k : IntKind} {m q r : Int} {T U : TypeId} (hg : Z0t ops ρ g = true) (hN : Nat.blt d N = true) (hx : Z0g ρ x = some (.int k m)) (hy : Z0g ρ y = some (.int k q)) (hr : k.wrap (m * q) = r) (n : RunL P N ops Q rest ((d, .int k r) :: ρ) w) : RunL P N ops Q (⟨some d, .binOp .mul T x y U, ty, pos, af, g⟩ :: rest) ρ w :=
 Z2q rfl hg hN hx hy (by simp [Op.intArith, hr]) n
theorem Z2D {x y : Operand} {k : IntKind} {m q r : Int} {T U : TypeId} (hg : Z0t ops ρ g = true) (hN : Nat.blt d N = true) (hx : Z0g ρ x = some (.int k m)) (hy : Z0g ρ y = some (.int k q)) (h0 : q ≠ 0) (hr : k.wrap (m.tdiv q) = r) (n : RunL P N ops Q rest ((d, .int k r) :: ρ) w) : RunL P N ops Q (⟨some d, .binOp .quo T x y U, ty, pos, af, g⟩ :: rest) ρ w :=
 Z2q rfl hg hN hx hy (by simp [Op.intDiv, hr, h0]) n
theorem Z2e {x y : Operand} {k : IntKind} {m q r : Int} {T U : TypeId} (hg : Z0t ops ρ g = true) (hN : Nat.blt d N = true) (hx : Z0g ρ x = some (.int k m)) (hy : Z0g ρ y = some (.int k q)) (h0 : q ≠ 0) (hr : m.tmod q = r) (n : RunL P N ops Q rest ((d, .int k r) :: ρ) w) : RunL P N ops Q (⟨some d, .binOp .rem T x y U, ty, pos, af, g⟩ :: rest) ρ w :=
 Z2q rfl hg hN hx hy (by simp [Op.intDiv, hr, h0]) n
theorem beq_dec (m q : Int) : (m == q) = decide (m = q) := by rw [Bool.eq_iff_iff]; simp
def bitw (b : BinOp) (k : IntKind) (x y : Int) : Int :=
 match b with
 | .and => k.wrap (BitVec.ofInt k.bits x &&& BitVec.ofInt k.bits y).toNat
 | .or => k.wrap (BitVec.ofInt k.bits x ||| BitVec.ofInt k.bits y).toNat
 | .xor => k.wrap (BitVec.ofInt k.bits x ^^^ BitVec.ofInt k.bits y).toNat
 | _ => k.wrap (BitVec.ofInt k.bits x &&& ~~~(BitVec.ofInt k.bits y)).toNat
theorem Z1i {b : BinOp} {x y : Operand} {k : IntKind} {m q r : Int} {T U : TypeId} (hb : (match b with | .and | .or | .xor | .andNot => true | _ => false) = true) (hg : Z0t ops ρ g = true) (hN : Nat.blt d N = true) (hx : Z0g ρ x = some (.int k m)) (hy : Z0g ρ y = some (.int k q)) (hr : bitw b k m q = r) (n : RunL P N ops Q rest ((d, .int k r) :: ρ) w) : RunL P N ops Q (⟨some d, .binOp b T x y U, ty, pos, af, g⟩ :: rest) ρ w :=
 Z2q (by cases b <;> simp_all) hg hN hx hy (by cases b <;> simp_all [Op.intBits, bitw] <;> simp [← hr, bitw]) n
theorem Z5I {x y : Operand} {k k' : IntKind} {m q r : Int} {T U : TypeId} (hg : Z0t ops ρ g = true) (hN : Nat.blt d N = true) (hx : Z0g ρ x = some (.int k m)) (hy : Z0g ρ y = some (.int k' q)) (h0 : 0 ≤ q)
  (hr : k.wrap (m * 2 ^ (min q.toNat k.bits)) = r) (n : RunL P N ops Q rest ((d, .int k r) :: ρ) w) : RunL P N ops Q (⟨some d, .binOp .shl T x y U, ty, pos, af, g⟩ :: rest) ρ w :=
 Z1n hg rfl hN (fun a ha => by
  have hgd : (eqGuard .shl T x y (.int k m) (.int k' q)).run P w = .ok () w := by simp [eqGuard]
  have h1 : ¬ q < 0 := by omega
  simp [execOp, ha.eval hx, ha.eval hy, hgd, binOp, Op.shift, h1, hr]) n
theorem Z3e {x y : Operand} {k k' : IntKind} {m q r : Int} {T U : TypeId} (hg : Z0t ops ρ g = true) (hN : Nat.blt d N = true) (hx : Z0g ρ x = some (.int k m)) (hy : Z0g ρ y = some (.int k' q)) (h0 : 0 ≤ q)
  (hr : m.fdiv (2 ^ (min q.toNat k.bits)) = r) (n : RunL P N ops Q rest ((d, .int k r) :: ρ) w) : RunL P N ops Q (⟨some d, .binOp .shr T x y U, ty, pos, af, g⟩ :: rest) ρ w :=
 Z1n hg rfl hN (fun a ha => by
  have hgd : (eqGuard .shr T x y (.int k m) (.int k' q)).run P w = .ok () w := by simp [eqGuard]
  have h1 : ¬ q < 0 := by omega
  simp [execOp, ha.eval hx, ha.eval hy, hgd, binOp, Op.shift, h1, hr]) n
theorem l_lss {x y : Operand} {k : IntKind} {m q : Int} {T U : TypeId} (hg : Z0t ops ρ g = true) (hN : Nat.blt d N = true) (hx : Z0g ρ x = some (.int k m)) (hy : Z0g ρ y = some (.int k q)) (n : RunL P N ops Q rest ((d, .bool (decide (m < q))) :: ρ) w) : RunL P N ops Q (⟨some d, .binOp .lss T x y U, ty, pos, af, g⟩ :: rest) ρ w :=
 Z2q rfl hg hN hx hy (by simp [Op.intCmp]) n
theorem Zl {x y : Operand} {k : IntKind} {m q : Int} {T U : TypeId} (n : RunL P N ops Q rest ((d, .bool (decide (m < q))) :: ρ) w) (hg : Z0t ops ρ g = true := by exact rfl) (hN : Nat.blt d N = true := by exact rfl) (hx : Z0g ρ x = some (.int k m) := by exact rfl) (hy : Z0g ρ y = some (.int k q) := by exact rfl) : RunL P N ops Q (⟨some d, .binOp .lss T x y U, ty, pos, af, g⟩ :: rest) ρ w := l_lss hg hN hx hy n
theorem l_leq {x y : Operand} {k : IntKind} {m q : Int} {T U : TypeId} (hg : Z0t ops ρ g = true) (hN : Nat.blt d N = true) (hx : Z0g ρ x = some (.int k m)) (hy : Z0g ρ y = some (.int k q)) (n : RunL P N ops Q rest ((d, .bool (decide (m ≤ q))) :: ρ) w) : RunL P N ops Q (⟨some d, .binOp .leq T x y U, ty, pos, af, g⟩ :: rest) ρ w :=
 Z2q rfl hg hN hx hy (by simp [Op.intCmp]) n
theorem Zf {x y : Operand} {k : IntKind} {m q : Int} {T U : TypeId} (n : RunL P N ops Q rest ((d, .bool (decide (m ≤ q))) :: ρ) w) (hg : Z0t ops ρ g = true := by exact rfl) (hN : Nat.blt d N = true := by exact rfl) (hx : Z0g ρ x = some (.int k m) := by exact rfl) (hy : Z0g ρ y = some (.int k q) := by exact rfl) : RunL P N ops Q (⟨some d, .binOp .leq T x y U, ty, pos, af, g⟩ :: rest) ρ w := l_leq hg hN hx hy n
theorem l_gtr {x y : Operand} {k : IntKind} {m q : Int} {T U : TypeId} (hg : Z0t ops ρ g = true) (hN : Nat.blt d N = true) (hx : Z0g ρ x = some (.int k m)) (hy : Z0g ρ y = some (.int k q)) (n : RunL P N ops Q rest ((d, .bool (decide (q < m))) :: ρ) w) : RunL P N ops Q (⟨some d, .binOp .gtr T x y U, ty, pos, af, g⟩ :: rest) ρ w :=
 Z2q rfl hg hN hx hy (by simp [Op.intCmp]) n
theorem Zw {x y : Operand} {k : IntKind} {m q : Int} {T U : TypeId} (n : RunL P N ops Q rest ((d, .bool (decide (q < m))) :: ρ) w) (hg : Z0t ops ρ g = true := by exact rfl) (hN : Nat.blt d N = true := by exact rfl) (hx : Z0g ρ x = some (.int k m) := by exact rfl) (hy : Z0g ρ y = some (.int k q) := by exact rfl) : RunL P N ops Q (⟨some d, .binOp .gtr T x y U, ty, pos, af, g⟩ :: rest) ρ w := l_gtr hg hN hx hy n
theorem l_geq {x y : Operand} {k : IntKind} {m q : Int} {T U : TypeId} (hg : Z0t ops ρ g = true) (hN : Nat.blt d N = true) (hx : Z0g ρ x = some (.int k m)) (hy : Z0g ρ y = some (.int k q)) (n : RunL P N ops Q rest ((d, .bool (decide (q ≤ m))) :: ρ) w) : RunL P N ops Q (⟨some d, .binOp .geq T x y U, ty, pos, af, g⟩ :: rest) ρ w :=
 Z2q rfl hg hN hx hy (by simp [Op.intCmp]) n
theorem Zh {x y : Operand} {k : IntKind} {m q : Int} {T U : TypeId} (n : RunL P N ops Q rest ((d, .bool (decide (q ≤ m))) :: ρ) w) (hg : Z0t ops ρ g = true := by exact rfl) (hN : Nat.blt d N = true := by exact rfl) (hx : Z0g ρ x = some (.int k m) := by exact rfl) (hy : Z0g ρ y = some (.int k q) := by exact rfl) : RunL P N ops Q (⟨some d, .binOp .geq T x y U, ty, pos, af, g⟩ :: rest) ρ w := l_geq hg hN hx hy n
theorem l_eql {x y : Operand} {k : IntKind} {m q : Int} {T U : TypeId} (hg : Z0t ops ρ g = true) (hN : Nat.blt d N = true) (hx : Z0g ρ x = some (.int k m)) (hy : Z0g ρ y = some (.int k q)) (n : RunL P N ops Q rest ((d, .bool (decide (m = q))) :: ρ) w) : RunL P N ops Q (⟨some d, .binOp .eql T x y U, ty, pos, af, g⟩ :: rest) ρ w :=
 Z1n hg rfl hN (fun a ha => by
  have hgd : (eqGuard .eql T x y (.int k m) (.int k q)).run P w = .ok () w := by simp [eqGuard]
  simp [execOp, ha.eval hx, ha.eval hy, hgd, binOp, Op.intCmp, beq_dec]) n
theorem Ze {x y : Operand} {k : IntKind} {m q : Int} {T U : TypeId} (n : RunL P N ops Q rest ((d, .bool (decide (m = q))) :: ρ) w) (hg : Z0t ops ρ g = true := by exact rfl) (hN : Nat.blt d N = true := by exact rfl) (hx : Z0g ρ x = some (.int k m) := by exact rfl) (hy : Z0g ρ y = some (.int k q) := by exact rfl) : RunL P N ops Q (⟨some d, .binOp .eql T x y U, ty, pos, af, g⟩ :: rest) ρ w := l_eql hg hN hx hy n
theorem l_neq {x y : Operand} {k : IntKind} {m q : Int} {T U : TypeId} (hg : Z0t ops ρ g = true) (hN : Nat.blt d N = true) (hx : Z0g ρ x = some (.int k m)) (hy : Z0g ρ y = some (.int k q)) (n : RunL P N ops Q rest ((d, .bool (decide (¬ m = q))) :: ρ) w) : RunL P N ops Q (⟨some d, .binOp .neq T x y U, ty, pos, af, g⟩ :: rest) ρ w :=
 Z1n hg rfl hN (fun a ha => by
  have hgd : (eqGuard .neq T x y (.int k m) (.int k q)).run P w = .ok () w := by simp [eqGuard]
  have : (m != q) = decide (¬ m = q) := by simp [bne, beq_dec]
  simp [execOp, ha.eval hx, ha.eval hy, hgd, binOp, Op.intCmp, this]) n
theorem Zo {x y : Operand} {k : IntKind} {m q : Int} {T U : TypeId} (n : RunL P N ops Q rest ((d, .bool (decide (¬ m = q))) :: ρ) w) (hg : Z0t ops ρ g = true := by exact rfl) (hN : Nat.blt d N = true := by exact rfl) (hx : Z0g ρ x = some (.int k m) := by exact rfl) (hy : Z0g ρ y = some (.int k q) := by exact rfl) : RunL P N ops Q (⟨some d, .binOp .neq T x y U, ty, pos, af, g⟩ :: rest) ρ w := l_neq hg hN hx hy n
theorem Z5a {x : Operand} {k k' : IntKind} {m r : Int} {S T : TypeId} (hg : Z0t ops ρ g = true) (hN : Nat.blt d N = true) (hS : P.underlying S = some (.int k)) (hT : P.underlying T = some (.int k')) (hx : Z0g ρ x = some (.int k m)) (hr : k'.wrap m = r) (n : RunL P N ops Q rest ((d, .int k' r) :: ρ) w) : RunL P N ops Q (⟨some d, .convert S T x, ty, pos, af, g⟩ :: rest) ρ w :=
 Z1n hg rfl hN (fun a ha => by simp [execOp, ha.eval hx, convert, run_underlying hS, run_underlying hT, Conv.intToInt, hr]) n
theorem l_len {x : Operand} {A : Option Addr} {m c : Nat} {T e : TypeId} (hg : Z0t ops ρ g = true) (hN : Nat.blt d N = true) (hT : P.underlying T = some (.slice e)) (hx : Z0g ρ x = some (.slice A m c)) (n : RunL P N ops Q rest ((d, .int .i64 (m : Int)) :: ρ) w) : RunL P N ops Q (⟨some d, .call ⟨.builtin .len, #[x], #[T]⟩, ty, pos, af, g⟩ :: rest) ρ w :=
 Z1n hg rfl hN (fun a ha => by simp [execOp, ha.eval hx, resolve, invoke, builtin, Builtin.len_, run_underlying hT, goInt]) n
theorem l_lens {x : Operand} {s : ByteArray} {T : TypeId} (hg : Z0t ops ρ g = true) (hN : Nat.blt d N = true) (hT : P.underlying T = some .string) (hx : Z0g ρ x = some (.string s)) (n : RunL P N ops Q rest ((d, .int .i64 (s.size : Int)) :: ρ) w) : RunL P N ops Q (⟨some d, .call ⟨.builtin .len, #[x], #[T]⟩, ty, pos, af, g⟩ :: rest) ρ w :=
 Z1n hg rfl hN (fun a ha => by simp [execOp, ha.eval hx, resolve, invoke, builtin, Builtin.len_, run_underlying hT, goInt]) n
end
theorem Z0l {n : Int} (h : -9223372036854775808 ≤ n ∧ n ≤ 9223372036854775807) : IntKind.i64.wrap n = n := IntWalk.i64_in n h
theorem Z1p {n : Int} (h : 0 ≤ n ∧ n ≤ 18446744073709551615) : IntKind.u64.wrap n = n := IntWalk.u64_in n h
theorem Z2H (n : Int) : IntKind.u64.wrap n = n % 18446744073709551616 := IntKind.wrap_u64 n
theorem w_u8 {n : Int} (h : 0 ≤ n ∧ n ≤ 255) : IntKind.u8.wrap n = n := IntWalk.u8_in n h
theorem Z35 {x y : Int} (h : 0 ≤ x ∧ x ≤ 9223372036854775807 ∧ 1 ≤ y) : IntKind.i64.wrap (x.tdiv y) = x / y := IntWalk.i64_quo x y h
theorem Z78 {x y : Int} (h : 0 ≤ x ∧ x ≤ 18446744073709551615 ∧ 1 ≤ y) : IntKind.u64.wrap (x.tdiv y) = x / y := IntWalk.u64_quo x y h
theorem Z2E {x y : Int} (h : 0 ≤ x) : x.tmod y = x % y := Int.tmod_eq_emod_of_nonneg h
end Go.Vc
