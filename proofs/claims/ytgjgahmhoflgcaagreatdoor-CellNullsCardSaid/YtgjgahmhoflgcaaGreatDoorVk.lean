/- Slices of structs: rows of rows of cells. -/
import Derived.Test.YtgjgahmhoflgcaaGreatDoorVj
set_option linter.unusedVariables false
set_option linter.unusedSimpArgs false
namespace Go.Vc
open Go.RowKit
def Z1g (k : Nat) (rs : List (List Value)) : Prop := ∀ r ∈ rs, r.length = k ∧ ∀ v ∈ r, v.oneCell' = true
theorem Z1g.len {k : Nat} : ∀ {rs : List (List Value)}, Z1g k rs → rs.flatten.length = rs.length * k
 | [], _ => by simp
 | r :: rs, h => by
  have h1 := (h r (.head _)).1
  have h2 := Z1g.len (k := k) (rs := rs) (fun x hx => h x (.tail _ hx))
  rw [List.flatten_cons, List.length_append, h1, h2, List.length_cons, Nat.add_mul, Nat.one_mul, Nat.add_comm]
theorem Z1g.at {k : Nat} : ∀ {rs : List (List Value)}, Z1g k rs → ∀ (j : Nat) (r : List Value), rs[j]? = some r → ∀ (i : Nat), i < k → rs.flatten[j * k + i]? = r[i]?
 | [], _, j, r, h, i, hi => by simp at h
 | x :: rs, h, 0, r, hr, i, hi => by
  have hx := (h x (.head _)).1
  obtain rfl : x = r := by simpa using hr
  rw [Nat.zero_mul, Nat.zero_add, List.flatten_cons, List.getElem?_append_left ZO]
 | x :: rs, h, j + 1, r, hr, i, hi => by
  have hx := (h x (.head _)).1
  have ih := Z1g.at (k := k) (rs := rs) (fun y hy => h y (.tail _ hy)) j r (by simpa using hr) i hi
  rw [List.flatten_cons, List.getElem?_append_right (by rw [hx, Nat.add_mul, Nat.one_mul]; omega), hx, ← ih]
  congr 1
  rw [Nat.add_mul, Nat.one_mul]
  omega
theorem Z1g.setf {k : Nat} : ∀ {rs : List (List Value)}, Z1g k rs → ∀ (j : Nat) (vs : List Value), vs.length = k → j < rs.length → (rs.set j vs).flatten = rs.flatten.take (j * k) ++ vs ++ rs.flatten.drop (j * k + k)
 | [], _, j, vs, _, h => by simp at h
 | x :: rs, h, 0, vs, hv, _ => by
  have hx := (h x (.head _)).1
  rw [List.set_cons_zero, List.flatten_cons, List.flatten_cons, Nat.zero_mul, List.take_zero, List.nil_append, Nat.zero_add, List.drop_append_of_le_length ZO, List.drop_eq_nil_of_le ZO, List.nil_append]
 | x :: rs, h, j + 1, vs, hv, hj => by
  have hx := (h x (.head _)).1
  have ih := Z1g.setf (k := k) (rs := rs) (fun y hy => h y (.tail _ hy)) j vs hv (by simpa using hj)
  rw [List.set_cons_succ, List.flatten_cons, ih, List.flatten_cons, show (j + 1) * k = x.length + j * k from by rw [hx, Nat.add_mul, Nat.one_mul, Nat.add_comm], List.take_length_add_append, show x.length + j * k + k = x.length + (j * k + k) from by omega, List.drop_length_add_append]
  simp [List.append_assoc]
theorem Z1g.set {k : Nat} {rs : List (List Value)} (h : Z1g k rs) {vs : List Value} (hv : vs.length = k) (h1 : ∀ v ∈ vs, v.oneCell' = true) (j : Nat) : Z1g k (rs.set j vs) := fun r hr =>
 (List.mem_or_eq_of_mem_set hr).elim (h r) fun e => by subst e; exact ⟨hv, h1⟩
theorem Z1g.rep {k : Nat} {z : List Value} (hz : z.length = k) (h1 : ∀ v ∈ z, v.oneCell' = true) (m : Nat) : Z1g k (List.replicate m z) := fun r hr => by
 rw [List.eq_of_mem_replicate hr]; exact ⟨hz, h1⟩
theorem Z1g.snoc {k : Nat} {rs : List (List Value)} (h : Z1g k rs) {vs : List Value} (hv : vs.length = k) (h1 : ∀ v ∈ vs, v.oneCell' = true) : Z1g k (rs ++ [vs]) := fun r hr =>
 (List.mem_append.1 hr).elim (h r) fun e => by rw [List.mem_singleton.1 e]; exact ⟨hv, h1⟩
theorem Z1g.nil (k : Nat) : Z1g k [] := fun _ h => by cases h
abbrev As.rk (E : TypeId) (k : Nat) (v : Value) (rs : List (List Value)) : As := As.own E k v rs.length rs.flatten
def IK (w : World) (k : Nat) (v : Value) (rs : List (List Value)) : Prop := Z1g k rs ∧ ∃ A c, v = .slice A rs.length c ∧ rs.length ≤ c ∧ Sl w A rs.flatten
section
variable {w0 w w' : World} {B : Nat} {M : Nat → Prop} {σ σ' : List As} {E : TypeId} {k : Nat} {rs : List (List Value)} {v : Value}
theorem Own.ik (hr : Z1g k rs) (h : Own w E k v rs.length rs.flatten) : IK w k v rs := by
 rcases h.2 with ⟨rfl, hn⟩ | ⟨g, off, cap, cur, rfl, h1, _⟩
 ·have : rs = [] := List.eq_nil_of_length_eq_zero hn
  subst this
  exact ⟨hr, none, 0, rfl, Nat.le_refl _, Sl.nil _ _⟩
 exact ⟨hr, _, _, rfl, h1, h.sl⟩
theorem St.ik (hw : St w0 B M σ w) (hr : Z1g k rs) (hm : As.rk E k v rs ∈ σ) : IK w k v rs := Own.ik hr (hw.ok hm)
theorem IK.mono (h : IK w k v rs) (hb : ∀ j, j < w.heap.size → w'.heap[j]? = w.heap[j]?) : IK w' k v rs := by
 obtain ⟨hr, A, c, e, hc, hs⟩ := h
 exact ⟨hr, A, c, e, hc, hs.mono hb⟩
theorem St.nilk (hw : St w0 B M σ w) (E : TypeId) (k : Nat) : St w0 B M (As.rk E k (.slice none 0 0) [] :: σ) w :=
 hw.grow (.refl _ _ _) _ (Own.nil w E k) fun j hj => by simp [As.own, Value.ownBlock] at hj
end
section
variable {P : Program} {N : Nat} {ops : Array Oper} {Q : Z26} {ρ : Env} {w w0 : World} {rest : List Oper} {d : Nat} {ty : TypeId} {pos : String} {af : Array Edge} {g : Option (Nat × Bool)}
  {B : Nat} {M : Nat → Prop} {σ σ' : List As} {E : TypeId} {k : Nat} {rs : List (List Value)} {v : Value}
theorem Z1B {x : Operand} {T e : TypeId} {wx : World} (hg : Z0t ops ρ g = true) (hN : Nat.blt d N = true) (hT : P.underlying T = some (.slice e)) (hx : Z0g ρ x = some v) (h : IK wx k v rs) (n : RunL P N ops Q rest ((d, .int .i64 (rs.length : Int)) :: ρ) w) : RunL P N ops Q (⟨some d, .call ⟨.builtin .len, #[x], #[T]⟩, ty, pos, af, g⟩ :: rest) ρ w := by
 obtain ⟨_, A, c, rfl, hc, hs⟩ := h
 exact l_len hg hN hT hx n
theorem Z3J {x ix : Operand} {ki : IntKind} {i : Int} {j : Nat} {T e : TypeId} (hg : Z0t ops ρ g = true) (hN : Nat.blt d N = true) (hT : P.underlying T = some (.slice e)) (hsz : (P.info? e).map (·.size) = some k) (hk : 0 < k)
  (hx : Z0g ρ x = some v) (hi : Z0g ρ ix = some (.int ki i)) (h : IK w k v rs) (hij : i = (j : Int)) (hb : j < rs.length)
  (n : ∀ ad c, v = .slice (some ad) rs.length c → RunL P N ops Q rest ((d, .pointer (some (ad.add (j * k)))) :: ρ) w) : RunL P N ops Q (⟨some d, .indexAddr T x ix, ty, pos, af, g⟩ :: rest) ρ w := by
 obtain ⟨hr, A, c, rfl, hc, hs⟩ := h
 subst hij
 have hl := hr.len
 have hpos : 0 < rs.flatten.length := by rw [hl]; exact Nat.mul_pos ZO hk
 obtain ⟨ad, rfl⟩ := hs.some_ hpos
 refine Z1n hg rfl hN (fun a ha => ?_) (n ad c rfl)
 cases hq : P.info? e with
 | none => simp [hq] at hsz
 | some inf =>
  have h1 : inf.size = k := by simpa [hq] using hsz
  have hne : k ≠ 0 := by omega
  simp [execOp, ha.eval hx, ha.eval hi, Instr.indexAt, asIntOf, run_underlying hT, hb, sizeOf, typeInfo, hq, h1, hne]
theorem Z2w {x : Operand} {ad : Addr} {j c n : Nat} {t : TypeId} {u : TypeDesc} {r : List Value} (hg : Z0t ops ρ g = true) (hN : Nat.blt d N = true) (hu : P.underlying t = some u) (hp : Z1V u = false) (hsz : (P.info? t).map (·.size) = some k)
  (hx : Z0g ρ x = some (.pointer (some (ad.add (j * k))))) (hv : v = .slice (some ad) n c) (h : IK w k v rs) (hr : rs[j]? = some r) (nx : RunL P N ops Q rest ((d, .agg r.toArray) :: ρ) w) : RunL P N ops Q (⟨some d, .load t x, ty, pos, af, g⟩ :: rest) ρ w :=
 Z1n hg rfl hN (fun a ha => by
  obtain ⟨hR, A, c', e, hc, hs⟩ := h
  subst hv
  injection e with e1 e2 e3
  subst e1
  have hrl := (hR r (List.mem_of_getElem? hr)).1
  have hl : (loadCells (ad.add (j * k)) r.length).run P w = .ok r.toArray w := run_loadCells_list (P := P) w _ r fun i v hi => by
   have hik : i < k := by
    have := (List.getElem?_eq_some_iff.1 hi).1
    omega
   have h1 := hR.at j r hr i hik
   rw [hi] at h1
   obtain ⟨ad', e', hcell⟩ := hs _ _ h1
   cases e'
   rw [Z3U]
   exact hcell
  have hi : (isAgg t).run P w = .ok true w := by
   simp only [isAgg, Sem.run_bind, run_underlying hu, Result.andThen_ok]
   cases u <;> simp_all [Z1V]
  cases hq : P.info? t with
  | none => simp [hq] at hsz
  | some inf =>
   have h1 : inf.size = r.length := by rw [hrl]; simpa [hq] using hsz
   simp [execOp, ha.eval hx, Instr.loadAt, Instr.sureAddr, loadVar, hi, sizeOf, typeInfo, hq, h1, hl]) nx
theorem k_store {Q : Post} {p y : Operand} {ad : Addr} {j n c : Nat} {t : TypeId} {vs : List Value} (hw : St w0 B M σ w) (u : Upd σ (As.rk E k v rs) (As.rk E k v (rs.set j vs)) σ') (hr : Z1g k rs) (hk : 0 < k) (hv : v = .slice (some ad) n c)
  (hg : Z0t ops ρ g = true) (hsz : (P.info? t).map (·.size) = some k) (hx : Z0g ρ p = some (.pointer (some (ad.add (j * k))))) (hy : Z0g ρ y = some (.agg vs.toArray)) (hl : vs.length = k) (hj : j < rs.length) (h1 : ∀ v ∈ vs, v.oneCell' = true)
  (nx : ∀ w', St w0 B M σ' w' → RunL P N ops ⟨false, Q⟩ rest ρ w') : RunL P N ops ⟨false, Q⟩ (⟨none, .store t p y, ty, pos, af, g⟩ :: rest) ρ w := by
 have ho : Own w E k v rs.length rs.flatten := hw.ok u.mem
 have hlen := hr.len
 rcases ho.2 with ⟨_, hn⟩ | ⟨gb, off, cap, cur, hv2, h2, h3, hgb, h4, h5⟩
 ·omega
 rw [hv] at hv2
 injection hv2 with hA hm hc
 injection hA with hA
 subst hA
 have hlt := (Array.getElem?_eq_some_iff.1 hgb).1
 have hjk : j * k + k ≤ rs.length * k := by
  have : (j + 1) * k ≤ rs.length * k := Nat.mul_le_mul_right k hj
  rw [Nat.add_mul, Nat.one_mul] at this
  exact this
 have hck : rs.length * k ≤ cap * k := Nat.mul_le_mul_right k h2
 have hcl : cur.toList.length = cur.size := by simp
 have hst := run_storeCells_at P gb (off + j * k) E vs 0 cur w hgb (by rw [hl]; omega) h1
 have hset := hr.setf j vs hl hj
 have hnew : (As.rk E k v (rs.set j vs)).ok (w.setRow gb (cur.toList.take (off + j * k) ++ vs ++ cur.toList.drop (off + j * k + vs.length)).toArray) := by
  have hsize : (cur.toList.take (off + j * k) ++ vs ++ cur.toList.drop (off + j * k + vs.length)).length = cur.size := by
   simp only [List.length_append, List.length_take, List.length_drop, hcl]
   omega
  refine ⟨(hr.set hl h1 j).len, .inr ⟨gb, off, cap, _, by rw [hv, List.length_set, hm, hc], by rw [List.length_set]; exact h2, h3, setRow_heap w gb cur _ E _ hgb, by rw [List.size_toArray, hsize]; exact h4, ?_⟩⟩
  rw [List.length_set, List.toList_toArray, hset]
  have ht : cur.toList.take (off + j * k) = cur.toList.take off ++ (cur.toList.drop off).take (j * k) := List.take_add
  have hlo : (cur.toList.take off).length = off := by rw [List.length_take]; omega
  have h6 : (cur.toList.drop off).take (j * k) = rs.flatten.take (j * k) := by
   rw [← h5, List.take_take, Nat.min_eq_left ZO]
  rw [ht, h6, List.append_assoc, List.append_assoc, List.drop_append_of_le_length ZO, List.drop_eq_nil_of_le ZO, List.nil_append, ← List.append_assoc]
  have h7 : (rs.flatten.take (j * k) ++ vs).length = j * k + k := by rw [List.length_append, List.length_take, hl]; omega
  have h8 : rs.length * k = (rs.flatten.take (j * k) ++ vs).length + (rs.length * k - (j * k + k)) := by omega
  rw [h8, List.take_length_add_append]
  congr 1
  rw [hl, ← h5, List.drop_take, ← List.drop_drop, ← List.drop_drop, ← List.drop_drop]
 refine l_unit hg rfl (fun a ha => ?_) (nx _ (hw.upd u (Z3H (w := w) (g := gb) _ _ (by rw [hv]; rfl) hlt) hnew ?_))
 ·cases hq : P.info? t with
  | none => simp [hq] at hsz
  | some i =>
   have h2 : i.size = vs.length := by rw [hl]; simpa [hq] using hsz
   simp only [Nat.add_zero] at hst
   simp [execOp, ha.eval hx, ha.eval hy, Instr.storeAt, Instr.sureAddr, storeVar, Value.cells, sizeOf, typeInfo, hq, h2, Z2p, hst]
 intro kk hkk
 have : gb = kk := by rw [hv] at hkk; simpa [As.own, Value.ownBlock] using hkk
 subst this
 exact ⟨.inl (by rw [hv]; rfl), by rw [Z3d]; exact hlt⟩
theorem made_flat (zs : List Value) (k c : Nat) (hz : zs.length = k) (hk : 0 < k) (h1 : ∀ v ∈ zs, v.oneCell' = true) : madeCells zs.toArray (c * k) = (List.replicate c zs).flatten.toArray := by
 apply Array.ext'
 apply List.ext_getElem?
 intro j
 have hR := Z1g.rep (k := k) hz h1 c
 by_cases hj : j < c * k
 ·have hdk : j / k < c := Nat.div_lt_of_lt_mul (by rw [Nat.mul_comm]; exact hj)
  have hm := Nat.mod_lt j hk
  have h2 := hR.at (j / k) zs (by rw [List.getElem?_replicate, if_pos hdk]) (j % k) hm
  rw [Nat.mul_comm, Nat.div_add_mod] at h2
  have hmz : j % zs.length < zs.length := by rw [hz]; exact hm
  rw [List.toList_toArray, h2]
  simp [madeCells, hj, hz, getElem!_def, hm, List.getElem?_eq_getElem (show j % k < zs.length by omega)]
 have hl := hR.len
 rw [List.length_replicate] at hl
 have hn : (madeCells zs.toArray (c * k)).toList[j]? = none := by
  apply List.getElem?_eq_none
  simp only [madeCells, Array.length_toList, Array.size_map, Array.size_range]
  omega
 rw [hn, List.toList_toArray]
 exact (List.getElem?_eq_none ZO).symm
theorem k_make {Q : Post} {sl sc : Operand} {t e : TypeId} {zs : List Value} {bytes m c : Nat} {ki kj : IntKind} {im ic : Int} (hw : St w0 B M σ w) (hg : Z0t ops ρ g = true) (hN : Nat.blt d N = true) (ht : P.underlying t = some (.slice e)) (hi : (P.info? e).map (fun i => (i.zero, i.size, i.bytes)) = some (some (.agg zs.toArray), k, bytes)) (hz : zs.length = k) (hk : 0 < k) (h1 : ∀ v ∈ zs, v.oneCell' = true)
  (hl : Z0g ρ sl = some (.int ki im)) (hc : Z0g ρ sc = some (.int kj ic)) (him : im = (m : Int)) (hic : ic = (c : Int)) (hmc : m ≤ c) (hbytes : bytes * c ≤ 281474976710656) (h63 : c * k ≤ maxLen) (h62 : c ≤ 9223372036854775807)
  (n : ∀ v' w', St w0 B M (As.rk e k v' (List.replicate m zs) :: σ) w' → RunL P N ops ⟨false, Q⟩ rest ((d, v') :: ρ) w') : RunL P N ops ⟨false, Q⟩ (⟨some d, .makeSlice t sl sc, ty, pos, af, g⟩ :: rest) ρ w := by
 obtain ⟨i, hi, h2, h3, h4⟩ := info_parts hi
 subst him hic
 have hb' : (i.bytes : Int) * (c : Int) ≤ 281474976710656 := by
  have h : ((i.bytes * c : Nat) : Int) ≤ 281474976710656 := by rw [h4]; omega
  rwa [Int.natCast_mul] at h
 have hr := run_make (P := P) w t e i (.agg zs.toArray) ht hi h2 ki kj m c ZO ZO hb' ZO
 simp only [Int.toNat_natCast, h3, Value.cells] at hr
 rw [made_flat zs k c hz hk h1] at hr
 have hR := Z1g.rep (k := k) hz h1 c
 have hRm := Z1g.rep (k := k) hz h1 m
 have hll := hR.len
 have hlm := hRm.len
 rw [List.length_replicate] at hll hlm
 have hck : c ≤ c * k := Nat.le_mul_of_pos_right c hk
 have hmk : m * k ≤ c * k := Nat.mul_le_mul_right k hmc
 have hpre : (List.replicate c zs).flatten.take (m * k) = (List.replicate m zs).flatten := by
  have e : List.replicate c zs = List.replicate m zs ++ List.replicate (c - m) zs := by rw [List.replicate_append_replicate]; congr 1; omega
  rw [e, List.flatten_append, List.take_append_of_le_length ZO, List.take_of_length_le ZO]
 have ho : Own (w.alloc (.cells (List.replicate c zs).flatten.toArray e)) e k (.slice (some ⟨w.heap.size, 0, none⟩) m c) (List.replicate m zs).length (List.replicate m zs).flatten :=
  ⟨by rw [List.length_replicate]; exact hlm, .inr ⟨w.heap.size, 0, c, _, by rw [List.length_replicate], by rw [List.length_replicate]; exact hmc, by omega, heap_alloc_new w _, by simp only [List.size_toArray]; omega, by rw [List.length_replicate, List.toList_toArray, List.drop_zero]; exact hpre⟩⟩
 exact Z2k (fun h => by cases h) hg rfl hN (fun a ha => by simp [execOp, ha.eval hl, ha.eval hc, hr]) (n _ _ (hw.new _ _ ho fun kk hk => by simpa [As.own, Value.ownBlock] using hk.symm))
end
end Go.Vc
