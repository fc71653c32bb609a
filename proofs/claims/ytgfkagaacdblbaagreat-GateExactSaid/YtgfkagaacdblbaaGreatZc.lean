/- the document's gate: its state, its rows -/
import Derived.Test.YtgfkagaacdblbaaGreatZb
set_option linter.unusedVariables false
set_option linter.unusedSimpArgs false
set_option maxRecDepth 10000
namespace Go.Proofs.YtgfkagaacdblbaaGreat.W
open Go.Vc Go.RowKit
section
variable {P : Program} {N : Nat} {ops : Array Oper} {Q : Z26} {ρ : Env} {w w0 : World} {rest : List Oper} {d : Nat} {ty : TypeId} {pos : String} {af : Array Edge} {g : Option (Nat × Bool)}
  {B : Nat} {M : Nat → Prop} {σ σ' : List As} {E : TypeId} {k : Nat} {rs : List (List Value)} {v : Value}
theorem k_store1 {Q : Post} {p y : Operand} {ad : Addr} {j o n c : Nat} {t : TypeId} {r : List Value} {x : Value} (hw : St w0 B M σ w) (u : Upd σ (As.rk E k v rs) (As.rk E k v (rs.set j (r.set o x))) σ') (hr : Z1g k rs) (hrj : rs[j]? = some r) (ho : o < k) (hv : v = .slice (some ad) n c)
  (hg : Z0t ops ρ g = true) (hsz : (P.info? t).map (·.size) = some 1) (hx : Z0g ρ p = some (.pointer (some ((ad.add (j * k)).add o)))) (hy : Z0g ρ y = some x) (h1 : x.oneCell' = true)
  (nx : ∀ w', St w0 B M σ' w' → RunL P N ops ⟨false, Q⟩ rest ρ w') : RunL P N ops ⟨false, Q⟩ (⟨none, .store t p y, ty, pos, af, g⟩ :: rest) ρ w := by
 have hO : Go.Vc.Own w E k v rs.length rs.flatten := hw.ok u.mem
 have hlen := hr.len
 have hj := (List.getElem?_eq_some_iff.1 hrj).1
 have hset := Z41 rs (fun x hx => (hr x hx).1) j r hrj o ho x
 have hjk : j * k + o < rs.flatten.length := by
  have : (j + 1) * k ≤ rs.length * k := Nat.mul_le_mul_right k hj
  rw [Nat.add_mul, Nat.one_mul] at this
  omega
 rcases hO.2 with ⟨_, hn⟩ | ⟨gb, off, cap, cur, hv2, h2, h3, hgb, h4, h5⟩
 ·omega
 rw [hv] at hv2
 injection hv2 with hA hm hc
 injection hA with hA
 subst hA
 have hck : rs.length * k ≤ cap * k := Nat.mul_le_mul_right k h2
 have hoj : off + (j * k + o) < cur.size := by omega
 have hcell : w.cell? ⟨gb, off + (j * k + o), none⟩ = some cur[off + (j * k + o)] := by
  rw [cell_of_row w gb _ cur E (0, 0) hgb]; simp [hoj]
 have hfr : w.frozen? ⟨gb, off + (j * k + o), none⟩ = false := by simp [World.frozen?, hgb]
 have hheap : (w.setCell ⟨gb, off + (j * k + o), none⟩ x).heap[gb]? = some (.cells (cur.setIfInBounds (off + (j * k + o)) x) E (0, 0)) := by
  simp [World.setCell, Array.getElem?_modify, hgb]
 have hrl := (hr r (List.mem_of_getElem? hrj)).1
 have hnew : (As.rk E k v (rs.set j (r.set o x))).ok (w.setCell ⟨gb, off + (j * k + o), none⟩ x) := by
  refine ⟨by rw [← hset]; simp only [List.length_set]; exact hlen, .inr ⟨gb, off, cap, _, by rw [hv, List.length_set, hm, hc], by rw [List.length_set]; exact h2, h3, hheap, by simpa using h4, ?_⟩⟩
  simp only [Array.toList_setIfInBounds]
  rw [List.drop_set, if_neg ZO, List.take_set, List.length_set, h5, ← hset]
  congr 1
  omega
 refine l_unit hg rfl (fun a ha => ?_) (nx (w.setCell ⟨gb, off + (j * k + o), none⟩ x) (hw.upd u ⟨rfl, rfl, rfl, by simp [World.setCell], fun k hk hm => Below.heap_setCell _ _ _ _ (fun e => hm (by subst e; rw [hv]; rfl))⟩ hnew ?_))
 ·have := Z2C (P := P) hsz hcell hfr h1
  simp [execOp, ha.eval hx, ha.eval hy, Instr.storeAt, Instr.sureAddr, Z2p, Nat.add_assoc, this]
 intro kk hkk
 have : gb = kk := by rw [hv] at hkk; simpa [As.own, Value.ownBlock] using hkk
 subst this
 exact ⟨.inl (by rw [hv]; rfl), by simpa [World.setCell] using (Array.getElem?_eq_some_iff.1 hgb).1⟩
end
/-! ### the state -/
structure GDh where
 h : Hd
 va : Value
 vd : Value
structure GDm where
 vh : Value
 hs : List GDh
 sg : List Sg
 la : Int
def GDm.abs (Z : GDm) : GW := ⟨Z.hs.map (·.h), Z.sg, (Z.la + 1).toNat % Z.hs.length⟩
def stV (y : Sg) : Int := if y.done = true then 2 else if y.built = 0 then 0 else 1
def segV (h : Hd) : Int := if h.line = 2 ∨ h.line = 3 then Z1d h else -1
def laV (y : Sg) : Int := (y.laid : Int)
def zrow (m : GDh) : List Value := [m.va, .int .i64 m.h.line, .int .i64 (m.h.nx : Int), .int .i64 (segV m.h), m.vd]
def zcC (vh : Value) (S L B : List Int) (la : Int) : List Value := vh :: (ints .i64 S ++ (ints .i64 L ++ (ints .i64 B ++ [.int .i64 la])))
def zC (Z : GDm) : List Value := zcC Z.vh (Z.sg.map stV) (Z.sg.map laV) (Z.sg.map (·.built)) Z.la
structure N41 (S L B : List Int) : Prop where
 s : S.length = 41
 l : L.length = 41
 b : B.length = 41
theorem zc_s {vh : Value} {S L B : List Int} {la : Int} (h : N41 S L B) {k : Nat} (hk : k < 41) : (zcC vh S L B la)[1 + k]? = some (.int .i64 (S.getD k 0)) := by
 have := h.s
 unfold zcC
 rw [Nat.add_comm 1 k, List.getElem?_cons_succ, List.getElem?_append_left (by simp [ints]; omega)]
 simp [ints, List.getD, show k < S.length by omega]
theorem zc_l {vh : Value} {S L B : List Int} {la : Int} (h : N41 S L B) {k : Nat} (hk : k < 41) : (zcC vh S L B la)[42 + k]? = some (.int .i64 (L.getD k 0)) := by
 have := h.s
 have := h.l
 unfold zcC
 rw [show 42 + k = (41 + k) + 1 from by omega, List.getElem?_cons_succ, List.getElem?_append_right (by simp [ints]; omega), List.getElem?_append_left (by simp [ints]; omega)]
 simp [ints, List.getD, show 41 + k - S.length = k by omega, show k < L.length by omega]
theorem zc_b {vh : Value} {S L B : List Int} {la : Int} (h : N41 S L B) {k : Nat} (hk : k < 41) : (zcC vh S L B la)[83 + k]? = some (.int .i64 (B.getD k 0)) := by
 have := h.s
 have := h.l
 have := h.b
 unfold zcC
 rw [show 83 + k = (82 + k) + 1 from by omega, List.getElem?_cons_succ, List.getElem?_append_right (by simp [ints]; omega), List.getElem?_append_right (by simp [ints]; omega), List.getElem?_append_left (by simp [ints]; omega)]
 simp [ints, List.getD, show 82 + k - S.length - L.length = k by omega, show k < B.length by omega]
theorem zc_la {vh : Value} {S L B : List Int} {la : Int} (h : N41 S L B) : (zcC vh S L B la)[124]? = some (.int .i64 la) := by
 have := h.s
 have := h.l
 have := h.b
 unfold zcC
 rw [show 124 = 123 + 1 from rfl, List.getElem?_cons_succ, List.getElem?_append_right (by simp [ints]; omega), List.getElem?_append_right (by simp [ints]; omega), List.getElem?_append_right (by simp [ints]; omega)]
 simp [ints, show 123 - S.length - L.length - B.length = 0 by omega]
theorem zc_len {vh : Value} {S L B : List Int} {la : Int} (h : N41 S L B) : (zcC vh S L B la).length = 125 := by
 have := h.s
 have := h.l
 have := h.b
 simp [zcC, ints]
 omega
theorem Z3Z (l : List Int) (k : Nat) (x : Int) : (ints .i64 l).set k (.int .i64 x) = ints .i64 (l.set k x) := by simp [ints, List.map_set]
theorem zs_s {vh : Value} {S L B : List Int} {la : Int} (h : N41 S L B) {k : Nat} (hk : k < 41) (x : Int) : Z1F (zcC vh S L B la) (1 + k) (.int .i64 x) (zcC vh (S.set k x) L B la) := by
 have h1 := Z3k (cs := zcC vh S L B la) (o := 1 + k) (by rw [zc_len h]; omega) (.int .i64 x)
 have e : (zcC vh S L B la).set (1 + k) (.int .i64 x) = zcC vh (S.set k x) L B la := by
  have := h.s
  unfold zcC
  rw [Nat.add_comm 1 k, List.set_cons_succ, List.set_append_left _ _ (by simp [ints]; omega), Z3Z]
 rwa [e] at h1
theorem zs_l {vh : Value} {S L B : List Int} {la : Int} (h : N41 S L B) {k : Nat} (hk : k < 41) (x : Int) : Z1F (zcC vh S L B la) (42 + k) (.int .i64 x) (zcC vh S (L.set k x) B la) := by
 have h1 := Z3k (cs := zcC vh S L B la) (o := 42 + k) (by rw [zc_len h]; omega) (.int .i64 x)
 have e : (zcC vh S L B la).set (42 + k) (.int .i64 x) = zcC vh S (L.set k x) B la := by
  have := h.s
  have := h.l
  have e1 : (ints .i64 S).length = 41 := by simp [ints]; omega
  unfold zcC
  rw [show 42 + k = (41 + k) + 1 from by omega, List.set_cons_succ, List.set_append_right _ _ ZO, e1, show 41 + k - 41 = k from by omega, List.set_append_left _ _ (by simp [ints]; omega), Z3Z]
 rwa [e] at h1
theorem zs_b {vh : Value} {S L B : List Int} {la : Int} (h : N41 S L B) {k : Nat} (hk : k < 41) (x : Int) : Z1F (zcC vh S L B la) (83 + k) (.int .i64 x) (zcC vh S L (B.set k x) la) := by
 have h1 := Z3k (cs := zcC vh S L B la) (o := 83 + k) (by rw [zc_len h]; omega) (.int .i64 x)
 have e : (zcC vh S L B la).set (83 + k) (.int .i64 x) = zcC vh S L (B.set k x) la := by
  have := h.s
  have := h.l
  have := h.b
  have e1 : (ints .i64 S).length = 41 := by simp [ints]; omega
  have e2 : (ints .i64 L).length = 41 := by simp [ints]; omega
  unfold zcC
  rw [show 83 + k = (82 + k) + 1 from by omega, List.set_cons_succ, List.set_append_right _ _ ZO, e1, show 82 + k - 41 = 41 + k from by omega, List.set_append_right _ _ ZO, e2, show 41 + k - 41 = k from by omega, List.set_append_left _ _ (by simp [ints]; omega), Z3Z]
 rwa [e] at h1
theorem zs_la {vh : Value} {S L B : List Int} {la : Int} (h : N41 S L B) (x : Int) : Z1F (zcC vh S L B la) 124 (.int .i64 x) (zcC vh S L B x) := by
 have h1 := Z3k (cs := zcC vh S L B la) (o := 124) (by rw [zc_len h]; omega) (.int .i64 x)
 have e : (zcC vh S L B la).set 124 (.int .i64 x) = zcC vh S L B x := by
  have := h.s
  have := h.l
  have := h.b
  have e1 : (ints .i64 S).length = 41 := by simp [ints]; omega
  have e2 : (ints .i64 L).length = 41 := by simp [ints]; omega
  have e3 : (ints .i64 B).length = 41 := by simp [ints]; omega
  unfold zcC
  rw [show 124 = 123 + 1 from rfl, List.set_cons_succ, List.set_append_right _ _ ZO, e1, List.set_append_right _ _ ZO, e2, List.set_append_right _ _ ZO, e3]
  rfl
 rwa [e] at h1
theorem N41.mk3 {Z : GDm} (h : Z.sg.length = 41) : N41 (Z.sg.map stV) (Z.sg.map laV) (Z.sg.map (·.built)) := ⟨by simpa using h, by simpa using h, by simpa using h⟩
theorem Z4u {α : Type} {f : α → Int} {L : List α} {k : Nat} {y : α} (h : L[k]? = some y) : (L.map f).getD k 0 = f y := by
 rw [List.getD_eq_getElem?_getD, List.getElem?_map, h]
 rfl
abbrev Z3A (m : GDh) : List As := [As.ri 3 .i64 m.va m.h.asks, As.rk 85 2 m.vd (Z0Y (m.h.asks.take m.h.nx))]
def Z2m (Z : GDm) : List As := (Z.hs.mapIdx fun _ m => Z3A m).flatten
abbrev zW (rb : Nat) (Z : GDm) : List As := [As.blk rb 80 (zC Z), As.rk 82 5 Z.vh (Z.hs.map zrow), As.sep (Z2m Z)]
theorem restZ_split {Z : GDm} {i : Nat} {m : GDh} (hm : Z.hs[i]? = some m) : ∃ O : List As, (Z2m Z).Perm (Z3A m ++ O) ∧ ∀ (m' : GDh) (Y : GDm), Y.hs = Z.hs.set i m' → (Z3A m' ++ O).Perm (Z2m Y) := by
 obtain ⟨O, h⟩ := Z3p (fun _ m => Z3A m) Z.hs 0 i m hm
 refine ⟨O, ?_, fun m' Y e => ?_⟩
 ·have := h m
  rw [Z36 hm] at this
  exact this
 unfold Z2m
 rw [e]
 exact (h m').symm
theorem Z3i {Z : GDm} {i : Nat} {m : GDh} (hm : Z.hs[i]? = some m) {A : As} (hA : A ∈ Z3A m) : A ∈ Z2m Z := by
 refine List.mem_flatten.2 ⟨Z3A m, ?_, hA⟩
 obtain ⟨h1, rfl⟩ := List.getElem?_eq_some_iff.1 hm
 exact List.mem_iff_getElem.2 ⟨i, by simpa using h1, by simp⟩
structure GDF (rb : Nat) (Z : GDm) (w : World) : Prop where
 hb : (As.blk rb 80 (zC Z)).ok w
 hh : IK w 5 Z.vh (Z.hs.map zrow)
 hs : ∀ A ∈ Z2m Z, A.ok w ∧ ∀ k, A.fp k → k < w.heap.size
theorem Z3j {L : List GDh} (h : ∀ m ∈ L, m.va.oneCell' = true ∧ m.vd.oneCell' = true) : Z1g 5 (L.map zrow) := fun r hr => by
 obtain ⟨m, hm, rfl⟩ := List.mem_map.1 hr
 obtain ⟨h1, h2⟩ := h m hm
 refine ⟨rfl, fun u hu => ?_⟩
 simp only [zrow, List.mem_cons, List.not_mem_nil, or_false] at hu
 rcases hu with rfl | rfl | rfl | rfl | rfl
 ·exact h1
 ·rfl
 ·rfl
 ·rfl
 exact h2
theorem Z1v {w : World} {E : TypeId} {k n : Nat} {v : Value} {cs : List Value} (h : (As.own E k v n cs).ok w) : v.oneCell' = true := by
 have h : Go.Vc.Own w E k v n cs := h
 rcases h.2 with ⟨rfl, _⟩ | ⟨g, off, cap, cur, rfl, _⟩ <;> rfl
theorem Z4v {w : World} {Z : GDm} (h : ∀ A ∈ Z2m Z, A.ok w) : ∀ m ∈ Z.hs, m.va.oneCell' = true ∧ m.vd.oneCell' = true := fun m hm => by
 obtain ⟨i, hi, rfl⟩ := List.mem_iff_getElem.1 hm
 have hmi := List.getElem?_eq_getElem hi
 exact ⟨Z1v (h _ (Z3i hmi (.head _))), Z1v (h _ (Z3i hmi (.tail _ (.head _))))⟩
theorem GDF.of {w0 w : World} {B : Nat} {M : Nat → Prop} {σ : List As} {rb : Nat} {Z : GDm} (hw : St w0 B M (zW rb Z ++ σ) w) : GDF rb Z w := by
 have hs := fun A hA => (hw.ok (show As.sep (Z2m Z) ∈ zW rb Z ++ σ from .tail _ (.tail _ (.head _)))).1 A hA
 exact ⟨hw.ok (.head _), Own.ik (Z3j (Z4v hs)) (hw.ok (.tail _ (.head _))), fun A hA =>
  ⟨hs A hA, fun k hk => (hw.sep.lt (show As.sep (Z2m Z) ∈ zW rb Z ++ σ from .tail _ (.tail _ (.head _))) k ⟨A, hA, hk⟩).2⟩⟩
theorem GDF.arg {w0 w : World} {σ : List As} {rb : Nat} {Z : GDm} (h : GDF rb Z w0) (hw : St w0 w0.heap.size Z0J σ w) : GDF rb Z w :=
 ⟨Z0S hw h.hb, hw.ikarg h.hh, fun A hA => ⟨A.loc w0 w (fun k hk => hw.ext.block k ((h.hs A hA).2 k hk) (fun e => e)) (h.hs A hA).1, fun k hk => Nat.lt_of_lt_of_le ((h.hs A hA).2 k hk) hw.ext.size⟩⟩
theorem GDF.va {rb i : Nat} {Z : GDm} {m : GDh} {w : World} (h : GDF rb Z w) (hm : Z.hs[i]? = some m) : IV w m.va (ints .i64 m.h.asks) := Own.iv (h.hs _ (Z3i (i := i) hm (.head _))).1
theorem GDF.vd {rb i : Nat} {Z : GDm} {m : GDh} {w : World} (h : GDF rb Z w) (hm : Z.hs[i]? = some m) : IK w 2 m.vd (Z0Y (m.h.asks.take m.h.nx)) := Own.ik (Z2v _) (h.hs _ (Z3i (i := i) hm (.tail _ (.head _)))).1
theorem Z2L {Z : GDm} {i : Nat} {m : GDh} (hm : Z.hs[i]? = some m) : Z.abs.hs[i]? = some m.h := by
 show (Z.hs.map (·.h))[i]? = _
 rw [List.getElem?_map, hm]; rfl
theorem Z2i {Z : GDm} : Z.abs.hs.length = Z.hs.length := by simp [GDm.abs]
theorem Z4w {Z : GDm} (hw : Wf Z.abs) {s : Nat} (hs : s < 41) : Z.sg[s]? = some (sgN Z.abs s) := hw.at hs
theorem WfZ.sg {Z : GDm} (hw : Wf Z.abs) : Z.sg.length = 41 := hw.sg
theorem WfZ.n41 {Z : GDm} (hw : Wf Z.abs) : N41 (Z.sg.map stV) (Z.sg.map laV) (Z.sg.map (·.built)) := N41.mk3 hw.sg
theorem zsl {w : World} {Z : GDm} {i : Nat} {m : GDh} (hm : Z.hs[i]? = some m) (h : IK w 5 Z.vh (Z.hs.map zrow)) : (∃ A c, Z.vh = .slice (some A) Z.hs.length c) ∧ (Z.hs.map zrow)[i]? = some (zrow m) ∧ i < Z.hs.length := by
 have hi := (List.getElem?_eq_some_iff.1 hm).1
 refine ⟨?_, by rw [List.getElem?_map, hm]; rfl, hi⟩
 obtain ⟨hr, A, c, e, _, hs⟩ := h
 obtain ⟨ad, rfl⟩ := hs.some_ (by rw [hr.len, List.length_map]; omega)
 exact ⟨ad, c, by rw [e, List.length_map]⟩
end Go.Proofs.YtgfkagaacdblbaaGreat.W
