/- More rules of the walk: append, make, cuts, strings, conversions. -/
import Derived.Test.YtgjgahmhoflgcaaGreatDoorVm
set_option linter.unusedVariables false
set_option linter.unusedSimpArgs false
namespace Go.Vc
open Go.RowKit
section
variable {w0 w w' : World} {B : Nat} {M : Nat → Prop} {σ σ' : List As} {A : Option Addr} {E : TypeId} {size n c : Nat} {cs news : List Value} {v : Value} {P : Program}
theorem Own.nil (w : World) (E : TypeId) (size : Nat) : Own w E size (.slice none 0 0) 0 [] := ⟨by simp, .inl ⟨rfl, rfl⟩⟩
theorem run_append_none (t ty e : TypeId) (i : TypeInfo) (ht : P.underlying t = some (.slice e)) (hi : P.info? e = some i) (hown : Own w e size v n cs) (c : Nat) : (Builtin.append_ #[t, t] ty #[v, .slice none 0 c]).run P w = .ok v w := by
 rcases hown.2 with ⟨rfl, rfl⟩ | ⟨g, off, cap, cur, rfl, hnc, _⟩
 ·simp [Builtin.append_, run_underlying ht, sizeOf, typeInfo, hi, Builtin.lenOf, Builtin.firstCells]
 simp [Builtin.append_, run_underlying ht, sizeOf, typeInfo, hi, Builtin.lenOf, Builtin.firstCells, hnc, storeCells]
theorem run_append_Own2 (t ty e : TypeId) (i : TypeInfo) (z : Value) (bytes : Nat) (ht : P.underlying t = some (.slice e)) (hi : P.info? e = some i) (hz : i.zero = some z)
  (hsize : i.size = size) (hby : i.bytes = bytes) (hzs : z.cells.size = size) (hown : Own w e size v n cs)
  (A : Option Addr) (m c : Nat) (hl : news.length = m * size) (hA : A = none → m = 0) (hnews : Sl w A news) (h1 : ∀ u ∈ news, u.oneCell' = true)
  (hbytes : (n + m) * bytes ≤ 140737488355328) (h63 : n + m ≤ 9223372036854775807) :
  ∃ v' w', (Builtin.append_ #[t, t] ty #[v, .slice A m c]).run P w = .ok v' w' ∧ Own w' e size v' (n + m) (cs ++ news) ∧ Ext w.heap.size (fun k => v.ownBlock = some k) w w' ∧
   (∀ k, v'.ownBlock = some k → (v.ownBlock = some k ∨ w.heap.size ≤ k) ∧ k < w'.heap.size) ∧
   (((∀ k, k < w.heap.size → w'.heap[k]? = w.heap[k]?) ∧ ((v' = v ∧ news = []) ∨ ∀ k, v'.ownBlock = some k → w.heap.size ≤ k)) ∨ ∃ g off cap cap', v = .slice (some ⟨g, off, none⟩) n cap ∧ v' = .slice (some ⟨g, off, none⟩) (n + m) cap') := by
 subst hsize
 subst hby
 have hlen : (cs ++ news).length = (n + m) * i.size := by rw [List.length_append, hown.1, hl, Nat.add_mul]
 cases hA' : A with
 | none =>
  have hm := hA hA'
  subst hm
  have hn : news = [] := List.eq_nil_of_length_eq_zero (by simpa using hl)
  subst hn
  exact ⟨v, w, run_append_none t ty e i ht hi hown c, by simpa using hown, .refl _ _ _, fun k hk => ⟨.inl hk, hown.lt k hk⟩, .inl ⟨fun _ _ => rfl, .inl ⟨rfl, rfl⟩⟩⟩
 | some a =>
  subst hA'
  have hn' : ∀ (j : Nat) (u : Value), news[j]? = some u → w.cell? (a.add j) = some u := fun j u hj => by
   obtain ⟨ad, e, hc⟩ := hnews j u hj
   cases e
   exact hc
  have grown : ∀ (old : Nat), old < n + m →
    Own (w.drew.alloc (.cells (cs.toArray ++ news.toArray ++ Builtin.zeroCells z.cells (grownCap w (n + m) old e - (n + m))) e)) e i.size (.slice (some ⟨w.heap.size, 0, none⟩) (n + m) (grownCap w (n + m) old e)) (n + m) (cs ++ news) := by
   intro old ho
   have hge := grownCap_ge w (n + m) old e
   refine ⟨hlen, .inr ⟨w.heap.size, 0, _, _, rfl, hge, grownCap_le_maxLen w (n + m) old e (by simp only [maxLen]; omega), heap_alloc_new w.drew _, ?_, ?_⟩⟩
   ·simp only [Array.size_append, List.size_toArray, size_zeroCells, hzs, hown.1, hl, ← Nat.add_mul]
    rw [Nat.zero_add]
    exact Nat.mul_le_mul_right _ ZO
   simp only [List.drop_zero, Array.toList_append, List.append_assoc]
   rw [← List.append_assoc, ← hlen]
   exact List.take_left
  rcases hown.2 with ⟨rfl, rfl⟩ | ⟨g, off, cap, cur, rfl, hnc, hcm, hg, hcs, htake⟩
  ·have hx : cs = [] := List.eq_nil_of_length_eq_zero (by simpa using hown.1)
   subst hx
   by_cases hm : m = 0
   ·subst hm
    have hn : news = [] := List.eq_nil_of_length_eq_zero (by simpa using hl)
    subst hn
    refine ⟨.slice none 0 0, w, ?_, Own.nil w e i.size, .refl _ _ _, (fun k hk => by simp [Value.ownBlock] at hk), .inl ⟨fun _ _ => rfl, .inl ⟨rfl, rfl⟩⟩⟩
    simp [Builtin.append_, run_underlying ht, sizeOf, typeInfo, hi, Builtin.lenOf, Builtin.firstCells, loadCells, loadCellsFrom]
   have hr := run_append_nil (P := P) w t ty e i z ht hi hz a m c news hl hn' ZO ZO (by have hb := hbytes; simp only [Nat.zero_add] at hb; omega)
   have hgr := grown 0 ZO
   simp only [Nat.zero_add, List.nil_append, Array.empty_append] at hgr ⊢
   refine ⟨_, _, hr, hgr, ⟨rfl, rfl, rfl, by simp, fun k hk _ => Below.heap_alloc w.drew _ k hk⟩, fun k hk => ?_, .inl ⟨fun k hk => Below.heap_alloc w.drew _ k hk, .inr fun k hk => by have : w.heap.size = k := (by simpa [Value.ownBlock] using hk); omega⟩⟩
   have : w.heap.size = k := by simpa [Value.ownBlock] using hk
   subst this
   exact ⟨.inr (Nat.le_refl _), by simp⟩
  have hglt : g < w.heap.size := (Array.getElem?_eq_some_iff.1 hg).1
  by_cases hroom : n + m ≤ cap
  ·have hmul : (n + m) * i.size ≤ cap * i.size := Nat.mul_le_mul_right _ hroom
   have hfit : off + n * i.size + news.length ≤ cur.size := by rw [hl]; rw [Nat.add_mul] at hmul; omega
   have hst := run_storeCells_at P g (off + n * i.size) e news 0 cur w hg (by simpa using hfit) h1
   simp only [Nat.add_zero] at hst
   have hf := run_firstCells_some (P := P) w i.size m a m c news hl hn'
   refine ⟨.slice (some ⟨g, off, none⟩) (n + m) cap, w.setRow g (cur.toList.take (off + n * i.size) ++ news ++ cur.toList.drop (off + n * i.size + news.length)).toArray, ?_, ⟨hlen, .inr ⟨g, off, cap, _, rfl, hroom, hcm, setRow_heap w g cur _ e _ hg, ?_, ?_⟩⟩, Z3H _ _ rfl hglt, fun k hk => ?_, .inr ⟨g, off, cap, cap, rfl, rfl⟩⟩
   ·simp [Builtin.append_, run_underlying ht, sizeOf, typeInfo, hi, Builtin.lenOf, hroom, hf, Z2p, hst]
   ·simp only [List.size_toArray, List.length_append, List.length_take, List.length_drop, Array.length_toList]
    omega
   ·have h3 : (cur.toList.take (off + n * i.size)).drop off = cs := by
     rw [List.drop_take, ← htake]
     congr 1
     omega
    have hlo : off ≤ (cur.toList.take (off + n * i.size)).length := by simp only [List.length_take, Array.length_toList]; omega
    rw [List.append_assoc, List.drop_append_of_le_length hlo, h3, ← List.append_assoc, ← hlen]
    exact List.take_left
   have : g = k := by simpa [Value.ownBlock] using hk
   subst this
   exact ⟨.inl rfl, by rw [Z3d]; exact hglt⟩
  have holds : ∀ (j : Nat) (u : Value), cs[j]? = some u → w.cell? ((⟨g, off, none⟩ : Addr).add j) = some u := fun j u hj => by
   obtain ⟨ad, e, hc⟩ := hown.sl j u hj
   cases e
   exact hc
  have hr := run_append_grow (P := P) w t ty e i z ht hi hz ⟨g, off, none⟩ n cap cs hown.1 holds a m c news hl hn' ZO ZO (growslice_fits ZO hbytes)
  refine ⟨_, _, hr, grown cap ZO, ⟨rfl, rfl, rfl, by simp, fun k hk _ => Below.heap_alloc w.drew _ k hk⟩, fun k hk => ?_, .inl ⟨fun k hk => Below.heap_alloc w.drew _ k hk, .inr fun k hk => by have : w.heap.size = k := (by simpa [Value.ownBlock] using hk); omega⟩⟩
  have : w.heap.size = k := by simpa [Value.ownBlock] using hk
  subst this
  exact ⟨.inr (Nat.le_refl _), by simp⟩
theorem run_append_Own (t ty e : TypeId) (i : TypeInfo) (z : Value) (bytes : Nat) (ht : P.underlying t = some (.slice e)) (hi : P.info? e = some i) (hz : i.zero = some z)
  (hsize : i.size = size) (hby : i.bytes = bytes) (hzs : z.cells.size = size) (hown : Own w e size v n cs)
  (A : Option Addr) (m c : Nat) (hl : news.length = m * size) (hA : A = none → m = 0) (hnews : Sl w A news) (h1 : ∀ u ∈ news, u.oneCell' = true)
  (hbytes : (n + m) * bytes ≤ 140737488355328) (h63 : n + m ≤ 9223372036854775807) :
  ∃ v' w', (Builtin.append_ #[t, t] ty #[v, .slice A m c]).run P w = .ok v' w' ∧ Own w' e size v' (n + m) (cs ++ news) ∧ Ext w.heap.size (fun k => v.ownBlock = some k) w w' ∧
   (∀ k, v'.ownBlock = some k → (v.ownBlock = some k ∨ w.heap.size ≤ k) ∧ k < w'.heap.size) :=
 let ⟨v', w', h1, h2, h3, h4, _⟩ := run_append_Own2 t ty e i z bytes ht hi hz hsize hby hzs hown A m c hl hA hnews h1 hbytes h63
 ⟨v', w', h1, h2, h3, h4⟩
theorem Own.made (z : Value) (m c : Nat) (hmc : m ≤ c) (hc : c ≤ maxLen) : Own (w.alloc (.cells (List.replicate c z).toArray E)) E 1 (.slice (some ⟨w.heap.size, 0, none⟩) m c) m (List.replicate m z) :=
 ⟨by simp, .inr ⟨w.heap.size, 0, c, _, rfl, hmc, hc, heap_alloc_new w _, by simp, by simp [List.take_replicate, Nat.min_eq_left hmc]⟩⟩
end
section
variable {P : Program} {N : Nat} {ops : Array Oper} {Q : Z26} {ρ : Env} {w w0 : World} {rest : List Oper} {d : Nat} {ty : TypeId} {pos : String} {af : Array Edge} {g : Option (Nat × Bool)}
  {B : Nat} {M : Nat → Prop} {σ σ' : List As}
theorem app_run {s x : Operand} {t e : TypeId} {z : Value} {size bytes : Nat} {v : Value} {n : Nat} {cs news : List Value} {A : Option Addr} {m c : Nat} (ht : P.underlying t = some (.slice e)) (hi : (P.info? e).map (fun i => (i.zero, i.size, i.bytes)) = some (some z, size, bytes)) (hzs : z.cells.size = size)
  (hown : Own w e size v n cs) (hl : news.length = m * size) (hA : A = none → m = 0) (hnews : Sl w A news) (h1 : ∀ u ∈ news, u.oneCell' = true) (hbytes : (n + m) * bytes ≤ 140737488355328) (h63 : n + m ≤ 9223372036854775807) (ty : TypeId) :
  ∃ v' w', (Builtin.append_ #[t, t] ty #[v, .slice A m c]).run P w = .ok v' w' ∧ Own w' e size v' (n + m) (cs ++ news) ∧ Ext w.heap.size (fun k => v.ownBlock = some k) w w' ∧
   (∀ k, v'.ownBlock = some k → (v.ownBlock = some k ∨ w.heap.size ≤ k) ∧ k < w'.heap.size) := by
 obtain ⟨i, hi, h2, h3, h4⟩ := info_parts hi
 exact run_append_Own t ty e i z bytes ht hi h2 h3 h4 hzs hown A m c hl hA hnews h1 hbytes h63
theorem l_append_nil {Q : Post} {s x : Operand} {t e : TypeId} {z : Value} {size bytes : Nat} {news : List Value} {A : Option Addr} {m c : Nat} (hw : St w0 B M σ w) (hg : Z0t ops ρ g = true) (hN : Nat.blt d N = true) (ht : P.underlying t = some (.slice e)) (hi : (P.info? e).map (fun i => (i.zero, i.size, i.bytes)) = some (some z, size, bytes)) (hzs : z.cells.size = size)
  (hs : Z0g ρ s = some (.slice none 0 0)) (hx : Z0g ρ x = some (.slice A m c)) (hl : news.length = m * size) (hnews : Sl w A news) (hA : A = none → m = 0) (h1 : ∀ u ∈ news, u.oneCell' = true) (hbytes : m * bytes ≤ 140737488355328) (h63 : m ≤ 9223372036854775807)
  (n : ∀ A' c' w', St w0 B M (As.own e size (.slice A' m c') m news :: σ) w' → RunL P N ops ⟨false, Q⟩ rest ((d, .slice A' m c') :: ρ) w') : RunL P N ops ⟨false, Q⟩ (⟨some d, .call ⟨.builtin .append, #[s, x], #[t, t]⟩, ty, pos, af, g⟩ :: rest) ρ w := by
 obtain ⟨v', w', hr, ho, hx', hb⟩ := app_run (s := s) (x := x) (c := c) ht hi hzs (Own.nil w e size) hl hA hnews h1 (by simpa using hbytes) (by simpa using h63) ty
 rw [Nat.zero_add, List.nil_append] at ho
 obtain ⟨A', c', rfl⟩ := ho.form
 refine Z2k (fun h => by cases h) hg rfl hN (fun a ha => by simp [execOp, ha.eval hs, ha.eval hx, resolve, invoke, builtin, hr]) (n A' c' w' (hw.grow (hx'.mono (Nat.le_refl _) fun k _ hk => by simp [Value.ownBlock] at hk) _ ho fun k hk => ?_))
 obtain ⟨h, h'⟩ := hb k hk
 exact ⟨h.resolve_left (by simp [Value.ownBlock]), h'⟩
theorem l_append0 {Q : Post} {s x : Operand} {t e : TypeId} {z : Value} {size bytes : Nat} {v : Value} {n : Nat} {cs news : List Value} {A : Option Addr} {m c : Nat} (hw : St w0 B M (As.own e size v n cs :: σ) w) (hg : Z0t ops ρ g = true) (hN : Nat.blt d N = true) (ht : P.underlying t = some (.slice e)) (hi : (P.info? e).map (fun i => (i.zero, i.size, i.bytes)) = some (some z, size, bytes)) (hzs : z.cells.size = size)
  (hs : Z0g ρ s = some v) (hx : Z0g ρ x = some (.slice A m c)) (hl : news.length = m * size) (hnews : Sl w A news) (hA : A = none → m = 0) (h1 : ∀ u ∈ news, u.oneCell' = true) (hbytes : (n + m) * bytes ≤ 140737488355328) (h63 : n + m ≤ 9223372036854775807)
  (nx : ∀ A' c' w', St w0 B M (As.own e size (.slice A' (n + m) c') (n + m) (cs ++ news) :: σ) w' → RunL P N ops ⟨false, Q⟩ rest ((d, .slice A' (n + m) c') :: ρ) w') : RunL P N ops ⟨false, Q⟩ (⟨some d, .call ⟨.builtin .append, #[s, x], #[t, t]⟩, ty, pos, af, g⟩ :: rest) ρ w := by
 obtain ⟨v', w', hr, ho, hx', hb⟩ := app_run (s := s) (x := x) (c := c) ht hi hzs (hw.ok mem0) hl hA hnews h1 hbytes h63 ty
 obtain ⟨A', c', rfl⟩ := ho.form
 exact Z2k (fun h => by cases h) hg rfl hN (fun a ha => by simp [execOp, ha.eval hs, ha.eval hx, resolve, invoke, builtin, hr]) (nx A' c' w' (hw.upd .head hx' ho hb))
theorem l_make {Q : Post} {sl sc : Operand} {t e : TypeId} {z : Value} {bytes m c : Nat} {k k' : IntKind} {im ic : Int} (hw : St w0 B M σ w) (hg : Z0t ops ρ g = true) (hN : Nat.blt d N = true) (ht : P.underlying t = some (.slice e)) (hi : (P.info? e).map (fun i => (i.zero, i.size, i.bytes)) = some (some z, 1, bytes)) (hzs : z.cells = #[z])
  (hl : Z0g ρ sl = some (.int k im)) (hc : Z0g ρ sc = some (.int k' ic)) (him : im = (m : Int)) (hic : ic = (c : Int)) (hmc : m ≤ c) (hbytes : bytes * c ≤ 281474976710656) (h63 : c ≤ 9223372036854775807)
  (n : ∀ b w', St w0 B M (As.own e 1 (.slice (some ⟨b, 0, none⟩) m c) m (List.replicate m z) :: σ) w' → RunL P N ops ⟨false, Q⟩ rest ((d, .slice (some ⟨b, 0, none⟩) m c) :: ρ) w') : RunL P N ops ⟨false, Q⟩ (⟨some d, .makeSlice t sl sc, ty, pos, af, g⟩ :: rest) ρ w := by
 obtain ⟨i, hi, h2, h3, h4⟩ := info_parts hi
 subst him hic
 have hb' : (i.bytes : Int) * (c : Int) ≤ 281474976710656 := by
  have h : ((i.bytes * c : Nat) : Int) ≤ 281474976710656 := by rw [h4]; omega
  rwa [Int.natCast_mul] at h
 have hr := run_make (P := P) w t e i z ht hi h2 k k' m c ZO ZO hb' ZO
 simp only [Int.toNat_natCast, h3, Nat.mul_one] at hr
 have hcells : madeCells z.cells c = (List.replicate c z).toArray := by
  apply Array.ext'
  apply List.ext_getElem?
  intro j
  simp only [madeCells, hzs]
  by_cases hj : j < c
  ·simp [hj, Nat.mod_one]
  simp [hj]
 rw [hcells] at hr
 exact Z2k (fun h => by cases h) hg rfl hN (fun a ha => by simp [execOp, ha.eval hl, ha.eval hc, hr]) (n w.heap.size _ (hw.new _ _ (Own.made z m c hmc (by simp only [maxLen]; omega)) fun k hk => by simpa [As.own, Value.ownBlock] using hk.symm))
def cutA (A : Option Addr) (l m size : Nat) : Option Addr := if m = l then A else A.map (·.add (l * size))
theorem cutA0 (A : Option Addr) (m size : Nat) : cutA A 0 m size = A := by
 unfold cutA
 split
 ·rfl
 cases A <;> simp [Addr.add]
theorem Sl.cut {A : Option Addr} {cs : List Value} (h : Sl w A cs) {l k m size : Nat} (hlk : l ≤ k) (hkm : k ≤ m) : Sl w (cutA A l m size) ((cs.drop (l * size)).take ((k - l) * size)) := by
 unfold cutA
 split
 ·have : k - l = 0 := by omega
  rw [this]; simp; exact Sl.nil _ _
 exact (h.drop _).take _
def Z2j (ρ : Env) : Option Operand → Option (Option Int)
 | none => some none
 | some x => match Z0g ρ x with
  | some (.int _ i) => some (some i)
  | _ => none
def bv (p : Option (IntKind × Int)) : Option Value := p.map fun q => .int q.1 q.2
theorem Z3G {a : Act} (ha : Fits N ρ a) {o : Option Operand} {r : Option Int} (h : Z2j ρ o = some r) : ∃ p : Option (IntKind × Int), r = p.map (·.2) ∧ o.map a.eval = bv p := by
 cases o with
 | none => cases h; exact ⟨none, rfl, rfl⟩
 | some x =>
  simp only [Z2j] at h
  cases hx : Z0g ρ x with
  | none => rw [hx] at h; cases h
  | some v =>
   rw [hx] at h
   cases v with
   | int k i =>
    simp only [Option.some.injEq] at h
    exact ⟨some (k, i), h.symm, by simp [ha.eval hx, bv]⟩
   | _ => cases h
theorem run_bounds (m c l h mm : Nat) (pl ph pm : Option (IntKind × Int)) (el : ((pl.map (·.2)).getD 0) = (l : Int)) (eh : ((ph.map (·.2)).getD (m : Int)) = (h : Int)) (em : ((pm.map (·.2)).getD (c : Int)) = (mm : Int)) (hx3 : pm.isSome = true → ph.isSome = true) (hlh : l ≤ h) (hhm : h ≤ mm) (hmc : mm ≤ c) :
  (Instr.sliceBounds true m c (bv pl) (bv ph) (bv pm)).run P w = .ok (l, h, mm) w := by
 have b1 : (0 : Int) ≤ (mm : Int) ∧ (mm : Int) ≤ (c : Int) := by omega
 have b2 : (0 : Int) ≤ (h : Int) ∧ (h : Int) ≤ (mm : Int) := by omega
 have b3 : (0 : Int) ≤ (l : Int) ∧ (l : Int) ≤ (h : Int) := by omega
 have b4 : (0 : Int) ≤ (h : Int) ∧ (h : Int) ≤ (c : Int) := by omega
 cases pm with
 | none =>
  have : mm = c := by simp at em; omega
  subst this
  cases ph with
  | none =>
   have : h = m := by simp at eh; omega
   subst this
   cases pl with
   | none =>
    have : l = 0 := by simp at el; omega
    subst this
    simp [Instr.sliceBounds, bv]
   | some p =>
    obtain ⟨k, i⟩ := p
    simp only [Option.map_some, Option.getD_some] at el
    subst el
    simp [Instr.sliceBounds, Instr.sliceBound, bv, asIntOf, hlh, hhm, hmc]
  | some p =>
   obtain ⟨k, i⟩ := p
   simp only [Option.map_some, Option.getD_some] at eh
   subst eh
   cases pl with
   | none =>
    have : l = 0 := by simp at el; omega
    subst this
    simp [Instr.sliceBounds, Instr.sliceBound, bv, asIntOf, hlh, hhm, hmc]
   | some p =>
    obtain ⟨k', i'⟩ := p
    simp only [Option.map_some, Option.getD_some] at el
    subst el
    simp [Instr.sliceBounds, Instr.sliceBound, bv, asIntOf, hlh, hhm, hmc]
 | some p =>
  obtain ⟨k0, i0⟩ := p
  simp only [Option.map_some, Option.getD_some] at em
  subst em
  cases ph with
  | none => simp at hx3
  | some p =>
   obtain ⟨k, i⟩ := p
   simp only [Option.map_some, Option.getD_some] at eh
   subst eh
   cases pl with
   | none =>
    have : l = 0 := by simp at el; omega
    subst this
    simp [Instr.sliceBounds, Instr.sliceBound, bv, asIntOf, hlh, hhm, hmc]
   | some p =>
    obtain ⟨k', i'⟩ := p
    simp only [Option.map_some, Option.getD_some] at el
    subst el
    simp [Instr.sliceBounds, Instr.sliceBound, bv, asIntOf, hlh, hhm, hmc]
theorem Z2d {x : Operand} {lo hi mx : Option Operand} {A : Option Addr} {m c : Nat} {T e : TypeId} {size l h mm : Nat} {rl rh rm : Option Int} (hg : Z0t ops ρ g = true) (hN : Nat.blt d N = true) (hT : P.underlying T = some (.slice e)) (hsz : (P.info? e).map (·.size) = some size)
  (hx : Z0g ρ x = some (.slice A m c)) (hl : Z2j ρ lo = some rl) (hh : Z2j ρ hi = some rh) (hm : Z2j ρ mx = some rm) (el : (rl.getD 0) = (l : Int)) (eh : (rh.getD (m : Int)) = (h : Int)) (em : (rm.getD (c : Int)) = (mm : Int)) (hx3 : rm.isSome = true → rh.isSome = true) (hlh : l ≤ h) (hhm : h ≤ mm) (hmc : mm ≤ c)
  (n : RunL P N ops Q rest ((d, .slice (cutA A l mm size) (h - l) (mm - l)) :: ρ) w) : RunL P N ops Q (⟨some d, .slice T x lo hi mx, ty, pos, af, g⟩ :: rest) ρ w :=
 Z1n hg rfl hN (fun a ha => by
  have hs : (sizeOf e).run P w = .ok size w := by
   cases hq : P.info? e with
   | none => simp [hq] at hsz
   | some i => simp [sizeOf, typeInfo, hq]; simpa [hq] using hsz
  obtain ⟨pl, rfl, e1⟩ := Z3G ha hl
  obtain ⟨ph, rfl, e2⟩ := Z3G ha hh
  obtain ⟨pm, rfl, e3⟩ := Z3G ha hm
  have key := run_bounds (P := P) (w := w) m c l h mm pl ph pm el eh em (by simpa using hx3) hlh hhm hmc
  simp only [execOp, e1, e2, e3]
  simp [execOp, ha.eval hx, Instr.sliceAt, Instr.slice, run_underlying hT, key, hs, cutA]) n
end
end Go.Vc
