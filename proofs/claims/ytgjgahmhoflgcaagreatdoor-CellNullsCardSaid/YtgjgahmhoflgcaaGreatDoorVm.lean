/- The walk's rules for memory: rows that are owned, rows that are read, new rows, append, cuts, calls. -/
import Derived.Test.YtgjgahmhoflgcaaGreatDoorVo
set_option linter.unusedVariables false
set_option linter.unusedSimpArgs false
namespace Go.Vc
open Go.RowKit
def Own (w : World) (E : TypeId) (size : Nat) (v : Value) (n : Nat) (cs : List Value) : Prop :=
 cs.length = n * size ∧ ((v = .slice none 0 0 ∧ n = 0) ∨ ∃ g off cap cur, v = .slice (some ⟨g, off, none⟩) n cap ∧ n ≤ cap ∧ cap ≤ maxLen ∧ w.heap[g]? = some (.cells cur E (0, 0)) ∧
  off + cap * size ≤ cur.size ∧ (cur.toList.drop off).take (n * size) = cs)
def As.own (E : TypeId) (size : Nat) (v : Value) (n : Nat) (cs : List Value) : As :=
 ⟨fun k => v.ownBlock = some k, fun w => Own w E size v n cs, fun w w' h hw => by
  refine ⟨hw.1, ?_⟩
  rcases hw.2 with hn | ⟨g, off, cap, cur, rfl, h1, h2, hg, rest⟩
  ·exact .inl hn
  ·exact .inr ⟨g, off, cap, cur, rfl, h1, h2, (h g rfl).trans hg, rest⟩⟩
def As.sl (A : Option Addr) (cs : List Value) : As :=
 ⟨fun k => ∃ ad, A = some ad ∧ ad.block = k, fun w => Sl w A cs, fun w w' h hw j v hj => by
  obtain ⟨ad, e, hc⟩ := hw j v hj
  refine ⟨ad, e, ?_⟩
  rw [World.cell?_of_block (w := w) (by rw [Z4a]; exact h _ ⟨ad, e, rfl⟩)]
  exact hc⟩
section
variable {w0 w w' : World} {B : Nat} {M : Nat → Prop} {σ σ' : List As} {A : Option Addr} {E : TypeId} {size n c : Nat} {cs : List Value} {v : Value}
theorem Own.sl (h : Own w E size (.slice A n c) n cs) : Sl w A cs := fun j v hj => by
 rcases h.2 with ⟨hv, hn⟩ | ⟨g, off, cap, cur, hv, h1, h2, hg, h3, h4⟩
 ·have := h.1
  subst hn
  have : cs = [] := List.eq_nil_of_length_eq_zero (by simpa using this)
  subst this
  simp at hj
 injection hv with hA
 subst hA
 refine ⟨_, rfl, ?_⟩
 rw [Z2p, cell_of_row w g _ cur E (0, 0) hg]
 rw [← h4, List.getElem?_take] at hj
 split at hj
 ·simpa [List.getElem?_drop] using hj
 cases hj
theorem St.own (hw : St w0 B M σ w) (hm : As.own E size (.slice A n c) n cs ∈ σ) : Sl w A cs := Own.sl (hw.ok hm)
theorem St.sl (hw : St w0 B M σ w) (hm : As.sl A cs ∈ σ) : Sl w A cs := hw.ok hm
theorem Own.form (h : Own w E size v n cs) : ∃ A c, v = .slice A n c := by
 rcases h.2 with ⟨hv, hn⟩ | ⟨g, off, cap, cur, hv, _⟩
 ·subst hn; exact ⟨_, _, hv⟩
 exact ⟨_, _, hv⟩
theorem Own.lt (h : Own w E size v n cs) : ∀ k, v.ownBlock = some k → k < w.heap.size := by
 intro k hk
 rcases h.2 with ⟨rfl, _⟩ | ⟨g, off, cap, cur, rfl, _, _, hg, _⟩
 ·simp [Value.ownBlock] at hk
 simp [Value.ownBlock] at hk
 subst hk
 exact (Array.getElem?_eq_some_iff.1 hg).1
theorem Own.take (h : Own w E size (.slice A n c) n cs) (m c' : Nat) (hm : m ≤ n) (hc : c' ≤ c) (hmc : m ≤ c') (hnil : n = 0 → A = none → c' = 0) : Own w E size (.slice A m c') m (cs.take (m * size)) := by
  refine ⟨by rw [List.length_take, h.1]; exact Nat.min_eq_left (Nat.mul_le_mul_right _ hm), ?_⟩
  rcases h.2 with ⟨hv, hn⟩ | ⟨g, off, cap, cur, hv, h1, h2, hg, h3, h4⟩
  · injection hv with hA hn' hc'
    subst hA
    have : c' = 0 := hnil hn rfl
    subst this
    exact .inl ⟨by have : m = 0 := by omega
                   subst this; rfl, by omega⟩
  injection hv with hA hn' hc'
  subst hA
  refine .inr ⟨g, off, c', cur, rfl, hmc, by omega, hg, ?_, ?_⟩
  · have : c' * size ≤ cap * size := Nat.mul_le_mul_right _ ZO
    omega
  rw [← h4, List.take_take]
  congr 1
  exact (Nat.min_eq_left (Nat.mul_le_mul_right _ hm)).symm
theorem Z4J (k : IntKind) (l : List Int) (j : Nat) (h : j < l.length) : (ints k l)[j]? = some (.int k (l.getD j 0)) := by
 simp [ints, List.getElem?_map, List.getD, h]
theorem Z77 (l : List UInt8) (j : Nat) (h : j < l.length) : (bys l)[j]? = some (.int .u8 ((l.getD j 0).toNat : Int)) := by
 simp [bys, List.getElem?_map, List.getD, h]
theorem ints_set (k : IntKind) (l : List Int) (j : Nat) (x : Int) : (ints k l).set j (.int k x) = ints k (l.set j x) := by simp [ints, List.map_set]
theorem bys_set (l : List UInt8) (j : Nat) (x : UInt8) : (bys l).set j (.int .u8 (x.toNat : Int)) = bys (l.set j x) := by simp [bys, List.map_set]
theorem Z4K (k : IntKind) (l : List Int) : ∀ u ∈ ints k l, u.oneCell' = true := by
 intro u hu; obtain ⟨x, _, rfl⟩ := List.mem_map.1 hu; rfl
theorem Z5L (l : List UInt8) : ∀ u ∈ bys l, u.oneCell' = true := by
 intro u hu; obtain ⟨x, _, rfl⟩ := List.mem_map.1 hu; rfl
inductive Z1F : List Value → Nat → Value → List Value → Prop
 | zero {x v : Value} {l : List Value} : Z1F (x :: l) 0 v (v :: l)
 | succ {x v : Value} {l l' : List Value} {o : Nat} (h : Z1F l o v l') : Z1F (x :: l) (o + 1) v (x :: l')
theorem Z1F.eq {l l' : List Value} {o : Nat} {v : Value} (h : Z1F l o v l') : l' = l.set o v ∧ o < l.length := by
 induction h with
 | zero => exact ⟨rfl, by simp⟩
 | succ _ ih => exact ⟨by rw [List.set_cons_succ, ih.1], by simpa using ih.2⟩
inductive Z3u : List Value → Nat → List Value → List Value → Prop
 | nil {l : List Value} : Z3u l 0 [] l
 | zero {x v : Value} {l l' vs : List Value} (h : Z3u l 0 vs l') : Z3u (x :: l) 0 (v :: vs) (v :: l')
 | succ {x : Value} {l l' vs : List Value} {o : Nat} (h : Z3u l o vs l') : Z3u (x :: l) (o + 1) vs (x :: l')
theorem Z3u.eq {l l' vs : List Value} {o : Nat} (h : Z3u l o vs l') : l' = l.take o ++ vs ++ l.drop (o + vs.length) ∧ o + vs.length ≤ l.length := by
 induction h with
 | nil => simp
 | zero _ ih => exact ⟨by simp at ih ⊢; exact ih.1, by have := ih.2; simp at this ⊢; omega⟩
 | @succ x l l' vs o h ih => exact ⟨by
   have := ih.1
   simp only [List.take_succ_cons, List.cons_append]
   rw [show o + 1 + vs.length = (o + vs.length) + 1 from by omega, List.drop_succ_cons, ← ih.1], by have := ih.2; simp; omega⟩
inductive Win : List Value → Nat → Nat → List Value → Prop
 | nil {l : List Value} : Win l 0 0 []
 | take {x : Value} {l r : List Value} {n : Nat} (h : Win l 0 n r) : Win (x :: l) 0 (n + 1) (x :: r)
 | drop {x : Value} {l r : List Value} {o n : Nat} (h : Win l o n r) : Win (x :: l) (o + 1) n r
theorem Win.get {l r : List Value} {o n : Nat} (h : Win l o n r) : r.length = n ∧ ∀ (j : Nat) (v : Value), r[j]? = some v → l[o + j]? = some v := by
 induction h with
 | nil => exact ⟨rfl, fun j v h => by simp at h⟩
 | take _ ih =>
  refine ⟨by simp [ih.1], fun j v h => ?_⟩
  cases j with
  | zero => simpa using h
  | succ j => simp at h ⊢; simpa using ih.2 j v h
 | @drop x l r o n _ ih =>
  refine ⟨ih.1, fun j v h => ?_⟩
  rw [show o + 1 + j = (o + j) + 1 from by omega, List.getElem?_cons_succ]
  exact ih.2 j v h
theorem alloc_ext (w : World) (o : Obj) : Ext w.heap.size Z0J w (w.alloc o) := ⟨rfl, rfl, rfl, by simp, fun k hk _ => Below.heap_alloc w o k hk⟩
theorem Z3H {g : Nat} (cells : Array Value) (F : Nat → Prop) (hF : F g) (hg : g < w.heap.size) : Ext w.heap.size F w (w.setRow g cells) :=
 ⟨rfl, rfl, rfl, by simp [World.setRow], fun k hk hm => setRow_other w g k _ (fun e => hm (e ▸ hF))⟩
theorem Z3d {g : Nat} (cells : Array Value) : (w.setRow g cells).heap.size = w.heap.size := by simp [World.setRow]
theorem St.new (hw : St w0 B M σ w) (o : Obj) (A : As) (ok : A.ok (w.alloc o)) (fp : ∀ k, A.fp k → k = w.heap.size) : St w0 B M (A :: σ) (w.alloc o) :=
 hw.grow (alloc_ext w o) A ok fun k hk => by have := fp k hk; subst this; exact ⟨Nat.le_refl _, by simp⟩
end
section
variable {P : Program} {N : Nat} {ops : Array Oper} {Q : Z26} {ρ : Env} {w w0 : World} {rest : List Oper} {d : Nat} {ty : TypeId} {pos : String} {af : Array Edge} {g : Option (Nat × Bool)}
  {B : Nat} {M : Nat → Prop} {σ σ' : List As}
def Z1V (u : TypeDesc) : Bool := match u with | .struct _ | .array _ _ => false | _ => true
theorem Z1W {t : TypeId} {u : TypeDesc} (hu : P.underlying t = some u) (hp : Z1V u = true) {a : Addr} {v : Value} (h : w.cell? a = some v) : (loadVar t a).run P w = .ok v w := by
 have hi : (isAgg t).run P w = .ok false w := by
  simp only [isAgg, Sem.run_bind, run_underlying hu, Result.andThen_ok]
  cases u <;> simp_all [Z1V]
 simp only [loadVar, Sem.run_bind, hi, Result.andThen_ok]
 simp [load, Sem.run, h]
theorem Z2C {t : TypeId} (hi : (P.info? t).map (·.size) = some 1) {a : Addr} {v x : Value} (h : w.cell? a = some x) (hf : w.frozen? a = false) (h1 : v.oneCell' = true) : (storeVar t a v).run P w = .ok () (w.setCell a v) := by
 cases hq : P.info? t with
 | none => simp [hq] at hi
 | some i =>
  have hs : i.size = 1 := by simpa [hq] using hi
  have hc : v.cells = #[v] := by cases v <;> first | rfl | (simp [Value.oneCell'] at h1; done)
  have ha : a.add 0 = a := rfl
  have : (store a v).run P w = .ok () (w.setCell a v) := by
   rw [run_store P w a v .plain h1, h]
   simp [hf]
  simp [storeVar, hc, sizeOf, typeInfo, hq, hs, storeCells, ha, this]
theorem l_idx {x ix : Operand} {A : Option Addr} {m c : Nat} {k : IntKind} {i : Int} {T e : TypeId} {cs : List Value} (hg : Z0t ops ρ g = true) (hN : Nat.blt d N = true) (hT : P.underlying T = some (.slice e)) (hsz : (P.info? e).map (·.size) = some 1)
  (hx : Z0g ρ x = some (.slice A m c)) (hi : Z0g ρ ix = some (.int k i)) (hb : 0 ≤ i ∧ i < m) (hs : Sl w A cs) (hc : cs.length = m)
  (n : RunL P N ops Q rest ((d, .pointer (A.map (·.add i.toNat))) :: ρ) w) : RunL P N ops Q (⟨some d, .indexAddr T x ix, ty, pos, af, g⟩ :: rest) ρ w :=
 Z1n hg rfl hN (fun a ha => by
  obtain ⟨ad, rfl⟩ := hs.some_ ZO
  cases hq : P.info? e with
  | none => simp [hq] at hsz
  | some inf =>
   have h1 : inf.size = 1 := by simpa [hq] using hsz
   simp [execOp, ha.eval hx, ha.eval hi, Instr.indexAt, asIntOf, run_underlying hT, hb, sizeOf, typeInfo, hq, h1]) n
theorem l_load {x : Operand} {A : Option Addr} {j : Nat} {cs : List Value} {v : Value} {t : TypeId} {u : TypeDesc} (hg : Z0t ops ρ g = true) (hN : Nat.blt d N = true) (hu : P.underlying t = some u) (hp : Z1V u = true)
  (hx : Z0g ρ x = some (.pointer (A.map (·.add j)))) (hs : Sl w A cs) (hv : cs[j]? = some v) (n : RunL P N ops Q rest ((d, v) :: ρ) w) : RunL P N ops Q (⟨some d, .load t x, ty, pos, af, g⟩ :: rest) ρ w :=
 Z1n hg rfl hN (fun a ha => by
  obtain ⟨ad, rfl, hc⟩ := hs j v hv
  simp [execOp, ha.eval hx, Instr.loadAt, Instr.sureAddr, Z1W hu hp hc]) n
theorem l_get {x ix : Operand} {A : Option Addr} {m c : Nat} {k : IntKind} {i : Int} {T e t : TypeId} {u : TypeDesc} {cs : List Value} {v : Value} {d' : Nat} {ty' : TypeId} {pos' : String} {af' : Array Edge} {g' : Option (Nat × Bool)}
  (hg : Z0t ops ρ g = true) (hg' : Z0t ops ((d, .pointer (A.map (·.add i.toNat))) :: ρ) g' = true) (hN : Nat.blt d N = true) (hN' : Nat.blt d' N = true) (hT : P.underlying T = some (.slice e)) (hsz : (P.info? e).map (·.size) = some 1) (hu : P.underlying t = some u) (hp : Z1V u = true)
  (hx : Z0g ρ x = some (.slice A m c)) (hi : Z0g ρ ix = some (.int k i)) (hb : 0 ≤ i ∧ i < m) (hs : Sl w A cs) (hc : cs.length = m) (hv : cs[i.toNat]? = some v)
  (n : RunL P N ops Q rest ((d', v) :: (d, .pointer (A.map (·.add i.toNat))) :: ρ) w) : RunL P N ops Q (⟨some d, .indexAddr T x ix, ty, pos, af, g⟩ :: ⟨some d', .load t (.tmp d), ty', pos', af', g'⟩ :: rest) ρ w :=
 l_idx hg hN hT hsz hx hi hb hs hc (l_load hg' hN' hu hp (by simp [Z0g, Env.get_cons]) hs hv n)
theorem l_gets {x ix : Operand} {l : List UInt8} {k : IntKind} {i : Int} {T : TypeId} (hg : Z0t ops ρ g = true) (hN : Nat.blt d N = true) (hT : P.underlying T = some .string) (hx : Z0g ρ x = some (str l)) (hi : Z0g ρ ix = some (.int k i)) (hb : 0 ≤ i ∧ i < l.length)
  (n : RunL P N ops Q rest ((d, .int .u8 ((l.getD i.toNat 0).toNat : Int)) :: ρ) w) : RunL P N ops Q (⟨some d, .index T x ix, ty, pos, af, g⟩ :: rest) ρ w :=
 Z1n hg rfl hN (fun a ha => by
  have hlt : i.toNat < l.length := by omega
  have : (⟨l.toArray⟩ : ByteArray)[i.toNat]? = some (l.getD i.toNat 0) := by
   rw [getElem?_pos (⟨l.toArray⟩ : ByteArray) i.toNat (show i.toNat < (⟨l.toArray⟩ : ByteArray).size by simpa [ByteArray.size] using hlt)]
   have e : (⟨l.toArray⟩ : ByteArray)[i.toNat]'(by simpa [ByteArray.size] using hlt) = l[i.toNat] := rfl
   rw [e]
   simp [List.getD, hlt]
  simp [execOp, ha.eval hx, ha.eval hi, Instr.index, asIntOf, run_underlying hT, hb.1, this]) n
theorem l_store_own {Q : Post} {p y : Operand} {A : Option Addr} {j m c : Nat} {E t : TypeId} {cs : List Value} {x : Value} (hw : St w0 B M σ w) (u : Upd σ (As.own E 1 (.slice A m c) m cs) (As.own E 1 (.slice A m c) m (cs.set j x)) σ')
  (hg : Z0t ops ρ g = true) (hsz : (P.info? t).map (·.size) = some 1) (hx : Z0g ρ p = some (.pointer (A.map (·.add j)))) (hy : Z0g ρ y = some x) (hj : j < cs.length) (h1 : x.oneCell' = true)
  (n : ∀ w', St w0 B M σ' w' → RunL P N ops ⟨false, Q⟩ rest ρ w') : RunL P N ops ⟨false, Q⟩ (⟨none, .store t p y, ty, pos, af, g⟩ :: rest) ρ w := by
 have ho : Own w E 1 (.slice A m c) m cs := hw.ok u.mem
 rcases ho.2 with ⟨hv, hn⟩ | ⟨gb, off, cap, cur, hv, h2, h3, hgb, h4, h5⟩
 ·have := ho.1; omega
 injection hv with hA hm hc
 subst hA
 have hlen := ho.1
 have hoj : off + j < cur.size := by omega
 have hcell : w.cell? ⟨gb, off + j, none⟩ = some cur[off + j] := by
  rw [cell_of_row w gb _ cur E (0, 0) hgb]; simp [hoj]
 have hfr : w.frozen? ⟨gb, off + j, none⟩ = false := by simp [World.frozen?, hgb]
 have hheap : (w.setCell ⟨gb, off + j, none⟩ x).heap[gb]? = some (.cells (cur.setIfInBounds (off + j) x) E (0, 0)) := by
  simp [World.setCell, Array.getElem?_modify, hgb]
 refine l_unit hg rfl (fun a ha => ?_) (n (w.setCell ⟨gb, off + j, none⟩ x) (hw.upd u ⟨rfl, rfl, rfl, by simp [World.setCell], fun k hk hm => Below.heap_setCell _ _ _ _ (fun e => hm (by subst e; rfl))⟩ ⟨by simpa using hlen, .inr ⟨gb, off, cap, _, by rw [hm, hc], by omega, h3, hheap, by simpa using h4, ?_⟩⟩ ?_))
 ·have := Z2C (P := P) hsz hcell hfr h1
  simp [execOp, ha.eval hx, ha.eval hy, Instr.storeAt, Instr.sureAddr, Z2p, this]
 ·simp only [Array.toList_setIfInBounds]
  rw [List.drop_set, if_neg ZO, List.take_set, h5]
  congr 1
  omega
 intro k hk
 have : gb = k := by simpa [As.own, Value.ownBlock] using hk
 subst this
 exact ⟨.inl rfl, by simpa [World.setCell] using (Array.getElem?_eq_some_iff.1 hgb).1⟩
theorem Z0s {Q : Post} {p y : Operand} {b o : Nat} {E t : TypeId} {cs cs' : List Value} {x : Value} (hw : St w0 B M σ w) (u : Upd σ (As.blk b E cs) (As.blk b E cs') σ') (hs : Z1F cs o x cs')
  (hg : Z0t ops ρ g = true) (hsz : (P.info? t).map (·.size) = some 1) (hx : Z0g ρ p = some (.pointer (some ⟨b, o, none⟩))) (hy : Z0g ρ y = some x) (h1 : x.oneCell' = true)
  (n : ∀ w', St w0 B M σ' w' → RunL P N ops ⟨false, Q⟩ rest ρ w') : RunL P N ops ⟨false, Q⟩ (⟨none, .store t p y, ty, pos, af, g⟩ :: rest) ρ w := by
 have hb : w.heap[b]? = some (.cells cs.toArray E (0, 0)) := hw.ok u.mem
 obtain ⟨rfl, ho⟩ := hs.eq
 have hcell : w.cell? ⟨b, o, none⟩ = some cs[o] := by
  rw [cell_of_row w b _ cs.toArray E (0, 0) hb]; simp [ho]
 have hfr : w.frozen? ⟨b, o, none⟩ = false := by simp [World.frozen?, hb]
 refine l_unit hg rfl (fun a ha => ?_) (n (w.setCell ⟨b, o, none⟩ x) (hw.upd u ⟨rfl, rfl, rfl, by simp [World.setCell], fun k hk hm => Below.heap_setCell _ _ _ _ (fun e => hm (by subst e; rfl))⟩ ?_ ?_))
 ·have := Z2C (P := P) hsz hcell hfr h1
  simp [execOp, ha.eval hx, ha.eval hy, Instr.storeAt, Instr.sureAddr, this]
 ·show (w.setCell ⟨b, o, none⟩ x).heap[b]? = _
  simp [World.setCell, Array.getElem?_modify, hb]
 intro k hk
 have : k = b := hk
 subst this
 exact ⟨.inl rfl, by simpa [World.setCell] using (Array.getElem?_eq_some_iff.1 hb).1⟩
theorem Z0m {Q : Post} {p y : Operand} {b o : Nat} {E t : TypeId} {cs cs' vs : List Value} (hw : St w0 B M σ w) (u : Upd σ (As.blk b E cs) (As.blk b E cs') σ') (hs : Z3u cs o vs cs')
  (hg : Z0t ops ρ g = true) (hsz : (P.info? t).map (·.size) = some vs.length) (hx : Z0g ρ p = some (.pointer (some ⟨b, o, none⟩))) (hy : Z0g ρ y = some (.agg vs.toArray)) (h1 : ∀ v ∈ vs, v.oneCell' = true)
  (n : ∀ w', St w0 B M σ' w' → RunL P N ops ⟨false, Q⟩ rest ρ w') : RunL P N ops ⟨false, Q⟩ (⟨none, .store t p y, ty, pos, af, g⟩ :: rest) ρ w := by
 have hb : w.heap[b]? = some (.cells cs.toArray E (0, 0)) := hw.ok u.mem
 obtain ⟨rfl, ho⟩ := hs.eq
 have hlt := (Array.getElem?_eq_some_iff.1 hb).1
 have hst := run_storeCells_at P b o E vs 0 cs.toArray w hb (by simpa using ho) h1
 refine l_unit hg rfl (fun a ha => ?_) (n (w.setRow b (cs.take o ++ vs ++ cs.drop (o + vs.length)).toArray) (hw.upd u (Z3H _ _ rfl hlt) (setRow_heap w b cs.toArray _ E _ hb) ?_))
 ·cases hq : P.info? t with
  | none => simp [hq] at hsz
  | some i =>
   have h2 : i.size = vs.length := by simpa [hq] using hsz
   simp only [Nat.add_zero] at hst
   simp [execOp, ha.eval hx, ha.eval hy, Instr.storeAt, Instr.sureAddr, storeVar, Value.cells, sizeOf, typeInfo, hq, h2, hst]
 intro k hk
 have : k = b := hk
 subst this
 exact ⟨.inl rfl, by rw [Z3d]; exact hlt⟩
theorem Z05 {x : Operand} {b o : Nat} {E t : TypeId} {u : TypeDesc} {cs : List Value} {v : Value} (hw : St w0 B M σ w) (hm : As.blk b E cs ∈ σ) (hg : Z0t ops ρ g = true) (hN : Nat.blt d N = true) (hu : P.underlying t = some u) (hp : Z1V u = true)
  (hx : Z0g ρ x = some (.pointer (some ⟨b, o, none⟩))) (hv : cs[o]? = some v) (n : RunL P N ops Q rest ((d, v) :: ρ) w) : RunL P N ops Q (⟨some d, .load t x, ty, pos, af, g⟩ :: rest) ρ w :=
 Z1n hg rfl hN (fun a ha => by
  have hb : w.heap[b]? = some (.cells cs.toArray E (0, 0)) := hw.ok hm
  have hc : w.cell? ⟨b, o, none⟩ = some v := by rw [cell_of_row w b _ cs.toArray E (0, 0) hb]; simpa using hv
  simp [execOp, ha.eval hx, Instr.loadAt, Instr.sureAddr, Z1W hu hp hc]) n
theorem Z1b {x : Operand} {b o m : Nat} {E t : TypeId} {u : TypeDesc} {cs vs : List Value} (hw : St w0 B M σ w) (hm : As.blk b E cs ∈ σ) (hg : Z0t ops ρ g = true) (hN : Nat.blt d N = true) (hu : P.underlying t = some u) (hp : Z1V u = false) (hsz : (P.info? t).map (·.size) = some m)
  (hx : Z0g ρ x = some (.pointer (some ⟨b, o, none⟩))) (hv : Win cs o m vs) (n : RunL P N ops Q rest ((d, .agg vs.toArray) :: ρ) w) : RunL P N ops Q (⟨some d, .load t x, ty, pos, af, g⟩ :: rest) ρ w :=
 Z1n hg rfl hN (fun a ha => by
  have hb : w.heap[b]? = some (.cells cs.toArray E (0, 0)) := hw.ok hm
  have hl : (loadCells ⟨b, o, none⟩ vs.length).run P w = .ok vs.toArray w := run_loadCells_list (P := P) w _ vs fun j v hj => by
   rw [Z2p, cell_of_row w b _ cs.toArray E (0, 0) hb]
   simpa using hv.get.2 j v hj
  have hi : (isAgg t).run P w = .ok true w := by
   simp only [isAgg, Sem.run_bind, run_underlying hu, Result.andThen_ok]
   cases u <;> simp_all [Z1V]
  cases hq : P.info? t with
  | none => simp [hq] at hsz
  | some inf =>
   have h1 : inf.size = vs.length := by rw [hv.get.1]; simpa [hq] using hsz
   simp [execOp, ha.eval hx, Instr.loadAt, Instr.sureAddr, loadVar, hi, sizeOf, typeInfo, hq, h1, hl]) n
def Z0C (P : Program) (s : TypeId) (f : Nat) : Option Nat :=
 match P.underlying s with
 | some (.struct fs) => (fs[f]?).bind fun fl => (P.info? fl.type).bind fun i => if i.size = 0 then none else some fl.offset
 | _ => none
theorem Z09 {x : Operand} {b o f fo : Nat} {s : TypeId} (hF : Z0C P s f = some fo) (hg : Z0t ops ρ g = true) (hN : Nat.blt d N = true) (hx : Z0g ρ x = some (.pointer (some ⟨b, o, none⟩))) (n : RunL P N ops Q rest ((d, .pointer (some ⟨b, o + fo, none⟩)) :: ρ) w) : RunL P N ops Q (⟨some d, .fieldAddr s x f, ty, pos, af, g⟩ :: rest) ρ w :=
 Z1n hg rfl hN (fun a ha => by
  unfold Z0C at hF
  split at hF
  ·rename_i fs hs
   cases hf : fs[f]? with
   | none => simp [hf] at hF
   | some fl =>
    cases hq : P.info? fl.type with
    | none => simp [hf, hq] at hF
    | some i =>
     simp only [hf, hq, Option.bind_some] at hF
     split at hF
     ·cases hF
     rename_i hz
     cases hF
     simp [execOp, ha.eval hx, Instr.fieldAt, run_underlying hs, hf, Instr.sureAddr, fieldPlace, sizeOf, typeInfo, hq, hz, Z2p]
  cases hF) n
theorem Z0X {Q : Post} {E : TypeId} {cs : List Value} (hw : St w0 B M σ w) (hz : (P.info? E).map (fun i => i.zero.map (·.cells.toList)) = some (some cs)) (hg : Z0t ops ρ g = true) (hN : Nat.blt d N = true)
  (n : ∀ b w', St w0 B M (As.blk b E cs :: σ) w' → RunL P N ops ⟨false, Q⟩ rest ((d, .pointer (some ⟨b, 0, none⟩)) :: ρ) w') : RunL P N ops ⟨false, Q⟩ (⟨some d, .alloc E, ty, pos, af, g⟩ :: rest) ρ w := by
 refine Z2k (fun h => by cases h) hg rfl hN (fun a ha => ?_) (n w.heap.size (w.alloc (.cells cs.toArray E)) (hw.new _ _ (heap_alloc_new w _) fun k hk => hk))
 cases hq : P.info? E with
 | none => simp [hq] at hz
 | some i =>
  cases hi : i.zero with
  | none => simp [hq, hi] at hz
  | some z =>
   have : z.cells = cs.toArray := by simp only [hq, hi, Option.map_some, Option.some.injEq] at hz; rw [← hz]
   simp [execOp, Instr.alloc, zeroValue, typeInfo, hq, hi, newVar, newRow, this]
theorem Z57 {Q : Post} {x : Operand} {E : TypeId} {cs : List Value} (hw : St w0 B M σ w) (hg : Z0t ops ρ g = true) (hN : Nat.blt d N = true) (hx : Z0g ρ x = some (.agg cs.toArray))
  (n : ∀ b w', St w0 B M (As.blk b E cs :: σ) w' → RunL P N ops ⟨false, Q⟩ rest ((d, .pointer (some ⟨b, 0, none⟩)) :: ρ) w') : RunL P N ops ⟨false, Q⟩ (⟨some d, .box E x, ty, pos, af, g⟩ :: rest) ρ w :=
 Z2k (fun h => by cases h) hg rfl hN (fun a ha => by simp [execOp, ha.eval hx, Instr.box, newVar, newRow, Value.cells]) (n w.heap.size (w.alloc (.cells cs.toArray E)) (hw.new _ _ (heap_alloc_new w _) fun k hk => hk))
theorem l_box1 {Q : Post} {x : Operand} {E : TypeId} {v : Value} (hw : St w0 B M σ w) (hg : Z0t ops ρ g = true) (hN : Nat.blt d N = true) (hx : Z0g ρ x = some v) (h1 : v.oneCell' = true)
  (n : ∀ b w', St w0 B M (As.blk b E [v] :: σ) w' → RunL P N ops ⟨false, Q⟩ rest ((d, .pointer (some ⟨b, 0, none⟩)) :: ρ) w') : RunL P N ops ⟨false, Q⟩ (⟨some d, .box E x, ty, pos, af, g⟩ :: rest) ρ w :=
 Z2k (fun h => by cases h) hg rfl hN (fun a ha => by
  have hc : v.cells = #[v] := by cases v <;> first | rfl | (simp [Value.oneCell'] at h1; done)
  simp [execOp, ha.eval hx, Instr.box, newVar, newRow, hc]) (n w.heap.size (w.alloc (.cells #[v] E)) (hw.new _ _ (heap_alloc_new w _) fun k hk => hk))
def Z0f (P : Program) (f : FuncId) (args : List Value) (w : World) (R : Value → World → Prop) : Prop := Calls P f args.toArray w fun e w' => ∃ v, e = .returned v ∧ R v w'
theorem Z0f.mono {f : FuncId} {args : List Value} {R R' : Value → World → Prop} (h : Z0f P f args w R) (hr : ∀ v w', R v w' → R' v w') : Z0f P f args w R' :=
 Calls.mono h fun e w' ⟨v, e', r⟩ => ⟨v, e', hr v w' r⟩
theorem Z0I {Q : Post} {f : FuncId} {fn : Func} {c : Code} {args : List Operand} {vals : List Value} {ats : Array TypeId} {R : Value → World → Prop} (hg : Z0t ops ρ g = true) (hN : Nat.blt d N = true) (hf : P.funcs[f]? = some fn) (hn : (fn.name == "runtime.NumGoroutine") = false) (hb : fn.body = some c)
  (hv : Z1f ρ args vals) (h : Z0f P f vals w R) (n : ∀ v w', R v w' → RunL P N ops ⟨false, Q⟩ rest ((d, v) :: ρ) w') : RunL P N ops ⟨false, Q⟩ (⟨some d, .call ⟨.value (.func f), args.toArray, ats⟩, ty, pos, af, g⟩ :: rest) ρ w := fun a ha => by
 show wpList P ops Q (_ :: _) a w
 unfold wpList
 rw [if_pos (Z1X ha hg)]
 refine .inl ?_
 unfold Oper.wp
 have h1 : fn.name ≠ "runtime.NumGoroutine" := by simpa using hn
 have hmap : args.toArray.map a.eval = vals.toArray := by rw [← hv.map ha]; simp
 have : (execOp a.eval ⟨some d, .call ⟨.value (.func f), args.toArray, ats⟩, ty, pos, af, g⟩).run P w = .ok (.enter f vals.toArray) w := by
  simp only [execOp, resolve, Act.eval, hmap]
  simp [Deferred.ofValue, invoke, callFunc, hf, h1, hb]
 rw [this, Oper.upon_enter]
 refine Calls.mono h fun e w' hr => ?_
 obtain ⟨v, rfl, hr⟩ := hr
 exact n v w' hr _ (ha.put d hN v)
theorem Zc {Q : Post} {f : FuncId} {fn : Func} {c : Code} {args : List Operand} {vals : List Value} {ats : Array TypeId} {R : Value → World → Prop} (hf : P.funcs[f]? = some fn) (h : Z0f P f vals w R) (n : ∀ v w', R v w' → RunL P N ops ⟨false, Q⟩ rest ((d, v) :: ρ) w') (hg : Z0t ops ρ g = true := by exact rfl) (hN : Nat.blt d N = true := by exact rfl) (hn : (fn.name == "runtime.NumGoroutine") = false := by exact rfl) (hb : fn.body = some c := by exact rfl) (hv : Z1f ρ args vals := by repeat first | exact Z1f.nil | apply Z1f.cons rfl) : RunL P N ops ⟨false, Q⟩ (⟨some d, .call ⟨.value (.func f), args.toArray, ats⟩, ty, pos, af, g⟩ :: rest) ρ w := Z0I hg hN hf hn hb hv h n
theorem Z13 {f : FuncId} {fn : Func} {c : Code} {args : List Operand} {vals : List Value} {ats : Array TypeId} {v : Value} (hg : Z0t ops ρ g = true) (hN : Nat.blt d N = true) (hf : P.funcs[f]? = some fn) (hn : (fn.name == "runtime.NumGoroutine") = false) (hb : fn.body = some c)
  (hv : Z1f ρ args vals) (h : Z0f P f vals w fun r w' => r = v ∧ w = w') (n : RunL P N ops Q rest ((d, v) :: ρ) w) : RunL P N ops Q (⟨some d, .call ⟨.value (.func f), args.toArray, ats⟩, ty, pos, af, g⟩ :: rest) ρ w := fun a ha => by
 have hw := Z1X (o := ⟨some d, .call ⟨.value (.func f), args.toArray, ats⟩, ty, pos, af, g⟩) ha hg
 have h1 : fn.name ≠ "runtime.NumGoroutine" := by simpa using hn
 have hmap : args.toArray.map a.eval = vals.toArray := by rw [← hv.map ha]; simp
 have hrun : (execOp a.eval ⟨some d, .call ⟨.value (.func f), args.toArray, ats⟩, ty, pos, af, g⟩).run P w = .ok (.enter f vals.toArray) w := by
  simp only [execOp, resolve, Act.eval, hmap]
  simp [Deferred.ofValue, invoke, callFunc, hf, h1, hb]
 have n' := n _ (ha.put d hN v)
 unfold lst at n' ⊢
 cases hs : Q.still with
 | false =>
  rw [hs] at n'
  simp only [cond_false] at n' ⊢
  unfold wpList
  rw [if_pos hw]
  refine .inl ?_
  unfold Oper.wp
  rw [hrun, Oper.upon_enter]
  refine Calls.mono h fun e w' hr => ?_
  obtain ⟨_, rfl, rfl, rfl⟩ := hr
  exact n'
 | true =>
  rw [hs] at n'
  simp only [cond_true] at n' ⊢
  unfold wpStill
  rw [if_pos hw]
  unfold Oper.still
  rw [hrun]
  exact ⟨rfl, v, Calls.mono h fun e w' hr => by obtain ⟨_, rfl, rfl, rfl⟩ := hr; exact ⟨rfl, rfl⟩, n'⟩
theorem Zp {f : FuncId} {fn : Func} {c : Code} {args : List Operand} {vals : List Value} {ats : Array TypeId} {v : Value} (hf : P.funcs[f]? = some fn) (h : Z0f P f vals w fun r w' => r = v ∧ w = w') (n : RunL P N ops Q rest ((d, v) :: ρ) w) (hg : Z0t ops ρ g = true := by exact rfl) (hN : Nat.blt d N = true := by exact rfl) (hn : (fn.name == "runtime.NumGoroutine") = false := by exact rfl) (hb : fn.body = some c := by exact rfl) (hv : Z1f ρ args vals := by repeat first | exact Z1f.nil | apply Z1f.cons rfl) : RunL P N ops Q (⟨some d, .call ⟨.value (.func f), args.toArray, ats⟩, ty, pos, af, g⟩ :: rest) ρ w := Z13 hg hN hf hn hb hv h n
theorem enterV {f : FuncId} {fn : Func} {c : Code} {args : List Value} {R : Value → World → Prop} (hf : P.funcs[f]? = some fn) (hb : fn.body = some c)
  (hN : Nat.ble args.length fn.ntmps = true) (n : RunC P fn.ntmps c (bodyPost P fn (fun e w' => ∃ v, e = .returned v ∧ R v w')) (args0 0 args) w) : Z0f P f args w R := enter hf hb hN n
end
end Go.Vc
