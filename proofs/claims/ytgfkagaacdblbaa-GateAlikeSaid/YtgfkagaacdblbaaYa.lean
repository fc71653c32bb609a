/- the gate: its state, its rows -/
import Derived.Test.YtgfkagaacdblbaaPh
import Derived.Test.YtgfkagaacdblbaaOp
import Derived.Test.YtgfkagaacdblbaaVj
import Derived.Test.YtgfkagaacdblbaaVk
import Derived.Test.YtgfkagaacdblbaaVy
set_option linter.unusedVariables false
set_option linter.unusedSimpArgs false
set_option maxRecDepth 10000
namespace Go.Proofs.Ytgfkagaacdblbaa.W
open Go.Vc Go.RowKit
section
variable {P : Program} {N : Nat} {ρ : Env} {w w' w0 : World} {Q : PostM} {ops : Array Oper} {rest : List Oper} {d : Nat} {ty : TypeId} {pos : String} {af : Array Edge} {g : Option (Nat × Bool)} {B : Nat} {M : Nat → Prop} {σ σ' τ τ' : List As}
theorem l_indexAo {x ix : Operand} {k : IntKind} {i : Int} {j m b o n : Nat} {T e : TypeId} (hg : wantE ops ρ g = true) (hN : Nat.blt d N = true) (hT : P.underlying T = some (.array m e)) (hsz : (P.info? e).map (·.size) = some n)
  (hx : evalE ρ x = some (.pointer (some ⟨b, o, none⟩))) (hi : evalE ρ ix = some (.int k i)) (hij : i = (j : Int)) (hb : j < m)
  (nx : RunL P N ops Q rest ((d, .pointer (some ⟨b, o + j * n, none⟩)) :: ρ) w) : RunL P N ops Q (⟨some d, .indexAddr T x ix, ty, pos, af, g⟩ :: rest) ρ w := by
 subst hij
 exact l_val hg rfl hN (fun a ha => by
  cases hq : P.info? e with
  | none => simp [hq] at hsz
  | some inf =>
   have h1 : inf.size = n := by simpa [hq] using hsz
   have h2 : (⟨b, o, none⟩ : Addr).add (j * n) = ⟨b, o + j * n, none⟩ := by rw [add_lit]
   simp [execOp, ha.eval hx, ha.eval hi, Instr.indexAt, Instr.sureAddr, asIntOf, run_underlying hT, hb, sizeOf, typeInfo, hq, h1, h2]) nx
theorem blk_cell {b o : Nat} {E : TypeId} {cs : List Value} {v : Value} (h : (As.blk b E cs).ok w) (hv : cs[o]? = some v) : w.cell? ⟨b, o, none⟩ = some v ∧ w.frozen? ⟨b, o, none⟩ = false := by
 have hb : w.heap[b]? = some (.cells cs.toArray E (0, 0)) := h
 exact ⟨by rw [cell_of_row w b _ cs.toArray E (0, 0) hb]; simpa using hv, by simp [World.frozen?, hb]⟩
/-! ### rows bundled, each apart from the others -/
def As.sep (τ : List As) : As :=
 ⟨fun k => ∃ A ∈ τ, A.fp k, fun w => (∀ A ∈ τ, A.ok w) ∧ τ.Pairwise (fun (A A' : As) => ∀ k : Nat, A.fp k → ¬ A'.fp k), fun w w' h hw => ⟨fun A hA => A.loc w w' (fun k hk => h k ⟨A, hA, hk⟩) (hw.1 A hA), hw.2⟩⟩
theorem sep_out {A : As} (h : Sep B M w (As.sep (A :: τ) :: σ)) : Sep B M w (A :: As.sep τ :: σ) := by
 obtain ⟨⟨h1, h2⟩, h3, h4, h5⟩ := h
 rw [List.pairwise_cons] at h2
 refine ⟨h1 A (.head _), fun k hk => h3 k ⟨A, .head _, hk⟩, fun X hX k hk hk' => ?_, ⟨fun X hX => h1 X (.tail _ hX), h2.2⟩, fun k ⟨X, hX, hk⟩ => h3 k ⟨X, .tail _ hX, hk⟩, fun X hX k ⟨Y, hY, hk⟩ => h4 X hX k ⟨Y, .tail _ hY, hk⟩, h5⟩
 cases hX with
 | head => obtain ⟨Y, hY, hk2⟩ := hk'; exact h2.1 Y hY k hk hk2
 | tail _ hX => exact h4 X hX k ⟨A, .head _, hk⟩ hk'
theorem sep_in {A : As} (h : Sep B M w (A :: As.sep τ :: σ)) : Sep B M w (As.sep (A :: τ) :: σ) := by
 obtain ⟨h1, h2, h3, ⟨h4, h5⟩, h6, h7, h8⟩ := h
 refine ⟨⟨fun X hX => ?_, List.pairwise_cons.2 ⟨fun Y hY k hk hk' => h3 (As.sep τ) (.head _) k hk ⟨Y, hY, hk'⟩, h5⟩⟩, fun k ⟨X, hX, hk⟩ => ?_, fun X hX k ⟨Y, hY, hk⟩ hk' => ?_, h8⟩
 ·cases hX with
  | head => exact h1
  | tail _ hX => exact h4 X hX
 ·cases hX with
  | head => exact h2 k hk
  | tail _ hX => exact h6 k ⟨X, hX, hk⟩
 ·cases hY with
  | head => exact h3 X (.tail _ hX) k hk hk'
  | tail _ hY => exact h7 X hX k ⟨Y, hY, hk⟩ hk'
theorem Sep.perm (hp : σ.Perm σ') (h : Sep B M w σ) : Sep B M w σ' := by
 induction hp with
 | nil => exact h
 | cons A hp ih => exact ⟨h.1, h.2.1, fun X hX => h.2.2.1 X (hp.mem_iff.2 hX), ih h.2.2.2⟩
 | swap A A' l => exact h.swap_
 | trans _ _ ih1 ih2 => exact ih2 (ih1 h)
theorem St.perm (hp : σ.Perm σ') (h : St w0 B M σ w) : St w0 B M σ' w := ⟨h.ext, h.base, Sep.perm hp h.sep⟩
theorem Sep.cons_ {A : As} (h : Sep B M w (A :: σ)) (f : Sep B M w σ → Sep B M w σ') (hm : ∀ X ∈ σ', ∀ k, X.fp k → ∃ Y ∈ σ, Y.fp k) : Sep B M w (A :: σ') :=
 ⟨h.1, h.2.1, fun X hX k hk hk' => by obtain ⟨Y, hY, hk2⟩ := hm X hX k hk'; exact h.2.2.1 Y hY k hk hk2, f h.2.2.2⟩
theorem sep_outs : ∀ (l : List As), Sep B M w (As.sep (l ++ τ) :: σ) → Sep B M w (l ++ As.sep τ :: σ)
 | [], h => h
 | A :: l, h => Sep.cons_ (sep_out h) (sep_outs l) fun X hX k hk => by
  rcases List.mem_append.1 hX with h1 | h1
  ·exact ⟨_, .head _, X, List.mem_append_left _ h1, hk⟩
  ·cases h1 with
   | head => obtain ⟨Y, hY, hk⟩ := hk; exact ⟨_, .head _, Y, List.mem_append_right _ hY, hk⟩
   | tail _ h1 => exact ⟨X, .tail _ h1, hk⟩
theorem sep_ins : ∀ (l : List As), Sep B M w (l ++ As.sep τ :: σ) → Sep B M w (As.sep (l ++ τ) :: σ)
 | [], h => h
 | A :: l, h => sep_in (Sep.cons_ h (sep_ins l) fun X hX k hk => by
  cases hX with
  | head =>
   obtain ⟨Y, hY, hk⟩ := hk
   rcases List.mem_append.1 hY with h1 | h1
   ·exact ⟨Y, List.mem_append_left _ h1, hk⟩
   ·exact ⟨_, List.mem_append_right _ (.head _), Y, h1, hk⟩
  | tail _ hX => exact ⟨X, List.mem_append_right _ (.tail _ hX), hk⟩)
theorem sep_nil (h : St w0 B M σ w) : St w0 B M (As.sep [] :: σ) w := ⟨h.ext, h.base, ⟨fun _ h => (nomatch h), .nil⟩, fun _ ⟨_, h, _⟩ => (nomatch h), fun _ _ _ ⟨_, h, _⟩ => (nomatch h), h.sep⟩
theorem sep_perm (hp : τ.Perm τ') (h : St w0 B M (As.sep τ :: σ) w) : St w0 B M (As.sep τ' :: σ) w := by
 obtain ⟨h1, h2, ⟨h3, h4⟩, h5, h6, h7⟩ := h
 exact ⟨h1, h2, ⟨fun A hA => h3 A (hp.mem_iff.2 hA), h4.perm hp fun hr k h1 h2 => hr k h2 h1⟩, fun k ⟨A, hA, hk⟩ => h5 k ⟨A, hp.mem_iff.2 hA, hk⟩, fun X hX k ⟨A, hA, hk⟩ => h6 X hX k ⟨A, hp.mem_iff.2 hA, hk⟩, h7⟩
theorem sep_take {l : List As} (hp : τ.Perm (l ++ τ')) (h : St w0 B M (As.sep τ :: σ) w) : St w0 B M (l ++ As.sep τ' :: σ) w := by
 have h2 := sep_perm hp h
 exact ⟨h2.ext, h2.base, sep_outs l h2.sep⟩
theorem sep_put {l : List As} (hp : (l ++ τ').Perm τ) (h : St w0 B M (l ++ As.sep τ' :: σ) w) : St w0 B M (As.sep τ :: σ) w :=
 sep_perm hp ⟨h.ext, h.base, sep_ins l h.sep⟩
end
/-! ### rows that a list of things holds -/
theorem flat_perm {α : Type} (f : Nat → α → List As) : ∀ (L : List α) (n i : Nat) (m : α), L[i]? = some m → ∃ O : List As, ∀ m', (((L.set i m').mapIdx fun j => f (j + n)).flatten).Perm (f (i + n) m' ++ O)
 | [], _, i, m, h => by simp at h
 | x :: L, n, 0, m, h => ⟨((L.mapIdx fun j => f (j + 1 + n)).flatten), fun m' => by simp [List.mapIdx_cons]⟩
 | x :: L, n, i + 1, m, h => by
  obtain ⟨O, hO⟩ := flat_perm f L (n + 1) i m (by simpa using h)
  refine ⟨f n x ++ O, fun m' => ?_⟩
  have h2 := hO m'
  simp only [List.set_cons_succ, List.mapIdx_cons, List.flatten_cons, Nat.zero_add]
  rw [show (fun j => f (j + 1 + n)) = (fun j => f (j + (n + 1))) from by funext j; rw [Nat.add_assoc, Nat.add_comm 1 n]]
  rw [show i + (n + 1) = i + 1 + n from by omega] at h2
  refine (List.Perm.append_left _ h2).trans ?_
  rw [← List.append_assoc, ← List.append_assoc]
  exact (List.perm_append_comm).append_right _
theorem sing_flat {α : Type} : ∀ (K : List α) (f : Nat → α → As), (K.mapIdx fun j x => [f j x]).flatten = K.mapIdx f
 | [], _ => rfl
 | x :: K, f => by
  simp only [List.mapIdx_cons, List.flatten_cons]
  rw [sing_flat K (fun j => f (j + 1))]
  rfl
theorem map_perm {α : Type} (f : Nat → α → As) (L : List α) (i : Nat) (m : α) (h : L[i]? = some m) : ∃ O : List As, ∀ m', ((L.set i m').mapIdx f).Perm (f i m' :: O) := by
 obtain ⟨O, hO⟩ := flat_perm (fun j x => [f j x]) L 0 i m h
 refine ⟨O, fun m' => ?_⟩
 have := hO m'
 simp only [Nat.add_zero] at this
 rw [sing_flat] at this
 exact this
theorem set_id {α : Type} {L : List α} {i : Nat} {m : α} (h : L[i]? = some m) : L.set i m = L := by
 obtain ⟨h1, rfl⟩ := List.getElem?_eq_some_iff.1 h
 simp
theorem flat_setc {k : Nat} : ∀ (rs : List (List Value)), (∀ x ∈ rs, x.length = k) → ∀ (j : Nat) (r : List Value), rs[j]? = some r → ∀ (i : Nat), i < k → ∀ v, rs.flatten.set (j * k + i) v = (rs.set j (r.set i v)).flatten
 | [], _, j, r, h, _, _, _ => by simp at h
 | x :: rs, h, 0, r, hr, i, hi, v => by
  have hx := h x (.head _)
  obtain rfl : x = r := by simpa using hr
  rw [Nat.zero_mul, Nat.zero_add, List.flatten_cons, List.set_append_left _ _ (by omega)]
  rfl
 | x :: rs, h, j + 1, r, hr, i, hi, v => by
  have hx := h x (.head _)
  have ih := flat_setc rs (fun y hy => h y (.tail _ hy)) j r (by simpa using hr) i hi v
  rw [List.flatten_cons, List.set_append_right _ _ (by rw [hx, Nat.add_mul, Nat.one_mul]; omega), hx, List.set_cons_succ, List.flatten_cons, ← ih]
  congr 2
  rw [Nat.add_mul, Nat.one_mul]
  omega
/-! ### the world of the gate -/
structure Hd where
 asks : List Int
 line : Int
 nx : Nat
 tk : Int
structure Sg where
 built : Int
 laid : Nat
 done : Bool
structure GW where
 hs : List Hd
 sg : List Sg
 fr : Nat
structure Hm where
 h : Hd
 bw : Nat
 bg : Nat
 bi : Nat
 bs : Nat
 bp : Nat
 wb : Nat
 vn : Value
 vp : Value
 vt : Value
 vd : Value
structure Sm where
 s : Sg
 v : Value
structure Gm where
 vh : Value
 vr : Value
 fr : Nat
 hs : List Hm
 sg : List Sm
def Gm.abs (X : Gm) : GW := ⟨X.hs.map (·.h), X.sg.map (·.s), X.fr⟩
def segsA (l : List Int) : List Int := l.map fun q => (whereS q).1
def plcsA (l : List Int) : List Int := l.map fun q => (whereS q).2.1
def readA (l : List Int) : List (List Value) := l.map fun q => wrow (entS q).1
def takR (tk : Int) : List (List Value) := if tk < 0 then [] else segR tk
def segC (y : Sm) : List Value := [y.v, .int .i64 y.s.built, .bool y.s.done]
def gC (X : Gm) : List Value := X.vh :: .int .i64 (X.fr : Int) :: ((X.sg.map segC).flatten ++ [X.vr])
def ptr (b : Nat) : Value := .pointer (some ⟨b, 0, none⟩)
def handV (m : Hm) : List Value := [.func (.func 45) #[] #[ptr m.bw], .func (.func 47) #[] #[ptr m.bw, ptr m.bg, ptr m.bi, ptr m.bs, ptr m.bp], .func (.func 51) #[] #[ptr m.bw]]
def wkC (b : Nat) (m : Hm) : List Value := [.pointer (some ⟨b, 2, none⟩), m.vn, .int .i64 (m.h.nx : Int), .int .i64 m.h.line, m.vt]
abbrev hrow (b i : Nat) (m : Hm) : List As :=
  [As.blk m.bw 83 [ptr m.wb], As.blk m.bg 25 [ptr b], As.blk m.bi 3 [.int .i64 (i : Int)], As.blk m.bs 23 [m.vn], As.blk m.bp 23 [m.vp], As.blk m.wb 99 (wkC b m),
   As.ri 3 .i64 m.vn (segsA m.h.asks), As.ri 3 .i64 m.vp (plcsA m.h.asks), As.rk 77 2 m.vt (takR m.h.tk), As.rk 77 2 m.vd (readA (m.h.asks.take m.h.nx))]
abbrev srow (s : Nat) (y : Sm) : As := As.rk 77 2 y.v ((segR (s : Int)).take y.s.laid)
def restG (b : Nat) (X : Gm) : List As := (X.hs.mapIdx (hrow b)).flatten ++ X.sg.mapIdx srow
abbrev gW (b : Nat) (X : Gm) : List As := [As.blk b 66 (gC X), As.rk 73 3 X.vh (X.hs.map handV), As.ro 34 X.vr (X.hs.map (·.vd)), As.sep (restG b X)]
theorem rest_split {b : Nat} {X : Gm} {i s : Nat} {m : Hm} {y : Sm} (hm : X.hs[i]? = some m) (hy : X.sg[s]? = some y) : ∃ O : List As, (restG b X).Perm (hrow b i m ++ srow s y :: O) ∧ ∀ (m' : Hm) (y' : Sm) (Y : Gm), Y.hs = X.hs.set i m' → Y.sg = X.sg.set s y' → (hrow b i m' ++ srow s y' :: O).Perm (restG b Y) := by
 obtain ⟨O1, h1⟩ := flat_perm (fun j => hrow b j) X.hs 0 i m hm
 obtain ⟨O2, h2⟩ := map_perm srow X.sg s y hy
 simp only [Nat.add_zero] at h1
 have key : ∀ (m' : Hm) (y' : Sm), (((X.hs.set i m').mapIdx (hrow b)).flatten ++ (X.sg.set s y').mapIdx srow).Perm (hrow b i m' ++ srow s y' :: (O1 ++ O2)) := fun m' y' => by
  refine ((h1 m').append (h2 y')).trans ?_
  rw [List.append_assoc]
  exact List.Perm.append_left _ (List.perm_middle)
 refine ⟨O1 ++ O2, ?_, fun m' y' Y e1 e2 => ?_⟩
 ·have := key m y
  rw [set_id hm, set_id hy] at this
  exact this
 ·unfold restG
  rw [e1, e2]
  exact (key m' y').symm
theorem segC_len (L : List Sm) : ∀ x ∈ L.map segC, x.length = 3 := fun x hx => by
 obtain ⟨y, _, rfl⟩ := List.mem_map.1 hx
 rfl
theorem gC_at {X : Gm} {s : Nat} {y : Sm} (h : X.sg[s]? = some y) (i : Nat) (hi : i < 3) : (gC X)[2 + s * 3 + i]? = (segC y)[i]? := by
 have hs := (List.getElem?_eq_some_iff.1 h).1
 have h1 := flat_at (X.sg.map segC) (segC_len _) s (segC y) (by simp [h]) i hi
 have hl := flat_len (X.sg.map segC) (segC_len _)
 rw [List.length_map] at hl
 unfold gC
 rw [show 2 + s * 3 + i = (s * 3 + i) + 1 + 1 from by omega, List.getElem?_cons_succ, List.getElem?_cons_succ, List.getElem?_append_left (by omega), h1]
theorem gC_vr {X : Gm} (hl : X.sg.length = 41) : (gC X)[125]? = some X.vr := by
 have h1 := flat_len (X.sg.map segC) (segC_len _)
 rw [List.length_map, hl] at h1
 unfold gC
 rw [show 125 = 123 + 1 + 1 from rfl, List.getElem?_cons_succ, List.getElem?_cons_succ, List.getElem?_append_right (by omega), h1]
 rfl
theorem gC_set {X : Gm} {s : Nat} {y y' : Sm} {v : Value} (h : X.sg[s]? = some y) (i : Nat) (hi : i < 3) (he : (segC y).set i v = segC y') : (gC X).set (2 + s * 3 + i) v = gC { X with sg := X.sg.set s y' } := by
 have hs := (List.getElem?_eq_some_iff.1 h).1
 have h1 := flat_setc (X.sg.map segC) (segC_len _) s (segC y) (by simp [h]) i hi v
 have hl := flat_len (X.sg.map segC) (segC_len _)
 rw [List.length_map] at hl
 unfold gC
 rw [show 2 + s * 3 + i = (s * 3 + i) + 1 + 1 from by omega, List.set_cons_succ, List.set_cons_succ, List.set_append_left _ _ (by omega), h1, he, List.map_set]
section
variable {P : Program} {N : Nat} {ρ : Env} {w w0 : World} {ops : Array Oper} {rest : List Oper} {d : Nat} {ty : TypeId} {pos : String} {af : Array Edge} {g : Option (Nat × Bool)} {B : Nat} {M : Nat → Prop} {σ σ' : List As}
theorem l_lit2 {Q : Post} {t e : TypeId} {x : Operand} {y0 y1 z0 z1 : Value} {bytes : Nat} (hw : St w0 B M σ w) (hg : wantE ops ρ g = true) (hN : Nat.blt d N = true) (hT : P.underlying t = some (.slice e)) (hi : (P.info? e).map (fun i => (i.zero, i.size, i.bytes)) = some (some (.agg #[z0, z1]), 2, bytes))
  (hz : (Value.agg #[z0, z1]).cells = #[z0, z1]) (hx : evalE ρ x = some (.agg #[y0, y1])) (hc : (Value.agg #[y0, y1]).cells = #[y0, y1])
  (n : ∀ b w', St w0 B M (As.blk b e [y0, y1] :: σ) w' → RunL P N ops ⟨false, Q⟩ rest ((d, .slice (some ⟨b, 0, none⟩) 1 1) :: ρ) w') : RunL P N ops ⟨false, Q⟩ (⟨some d, .buildSlice t 1 #[(0, x)], ty, pos, af, g⟩ :: rest) ρ w := by
 obtain ⟨i, hi, h2, h3, h4⟩ := info_parts hi
 refine l_valw (fun h => by cases h) hg rfl hN (fun a ha => ?_) (n w.heap.size (w.alloc (.cells #[y0, y1] e)) (hw.new _ _ (heap_alloc_new w _) fun k hk => hk))
 have hr : (Instr.buildSlice t 1 #[(0, .agg #[y0, y1])]).run P w = .ok (.slice (some ⟨w.heap.size, 0, none⟩) 1 1) (w.alloc (.cells #[y0, y1] e)) := by
  simp [Instr.buildSlice, run_underlying hT, sizeOf, typeInfo, hi, h2, h3, zeroValue, hz, Instr.fill, hc, newRow, Array.range, List.range]
  generalize i.size = m at h3 ⊢
  subst h3
  refine congrArg (fun z => w.alloc (Obj.cells z e)) (Array.ext (by simp) fun i h1 h2 => ?_)
  have : i = 0 ∨ i = 1 := by simp at h2; omega
  rcases this with rfl | rfl <;> simp
 simp only [execOp]
 simp [ha.eval hx, hr]
theorem k_append1 {Q : Post} {s x : Operand} {t e : TypeId} {z v : Value} {k bytes c : Nat} {rs : List (List Value)} {r : List Value} (hw : St w0 B M (As.rk e k v rs :: σ) w) (hg : wantE ops ρ g = true) (hN : Nat.blt d N = true) (ht : P.underlying t = some (.slice e)) (hi : (P.info? e).map (fun i => (i.zero, i.size, i.bytes)) = some (some z, k, bytes)) (hzs : z.cells.size = k)
  (hs : evalE ρ s = some v) (hx : evalE ρ x = some (.slice (some ⟨c, 0, none⟩) 1 1)) (hl : r.length = k) (hnews : Sl w (some ⟨c, 0, none⟩) r) (h1 : ∀ u ∈ r, u.oneCell' = true) (hbytes : (rs.length + 1) * bytes ≤ 140737488355328) (h63 : rs.length + 1 ≤ 9223372036854775807)
  (nx : ∀ v' w', St w0 B M (As.rk e k v' (rs ++ [r]) :: σ) w' → RunL P N ops ⟨false, Q⟩ rest ((d, v') :: ρ) w') : RunL P N ops ⟨false, Q⟩ (⟨some d, .call ⟨.builtin .append, #[s, x], #[t, t]⟩, ty, pos, af, g⟩ :: rest) ρ w :=
 l_append0 hw hg hN ht hi hzs hs hx (by simp [hl]) hnews (fun h => by cases h) h1 hbytes h63 (fun A' c' w' hw' => nx _ w' (hw'.cast (by unfold As.rk; rw [List.length_append, List.flatten_append]; simp)))
end
section
variable {P : Program} {N : Nat} {Q : Post} {ρ : Env} {w : World} {S : World → Prop} {ops : Array Oper} {L L1 L2 L3 : List Bool} {fuel : Nat}
end
theorem win0 {cs r : List Value} {n : Nat} (hl : r.length = n) (h : ∀ i, i < n → cs[i]? = r[i]?) : Win cs 0 n r := by
 induction n generalizing cs r with
 | zero => obtain rfl := List.eq_nil_of_length_eq_zero hl; exact .nil
 | succ n ih =>
  cases r with
  | nil => simp at hl
  | cons x r =>
   have h0 := h 0 (by omega)
   cases cs with
   | nil => simp at h0
   | cons y cs =>
    obtain rfl : y = x := by simpa using h0
    exact .take (ih (by simpa using hl) fun i hi => by have := h (i + 1) (by omega); simpa using this)
theorem win_of {cs r : List Value} {o n : Nat} (hn : 0 < n) (hl : r.length = n) (h : ∀ i, i < n → cs[o + i]? = r[i]?) : Win cs o n r := by
 induction o generalizing cs with
 | zero => exact win0 hl fun i hi => by have := h i hi; rwa [Nat.zero_add] at this
 | succ o ih =>
  cases cs with
  | nil =>
   have := h 0 hn
   cases r with
   | nil => subst hl; exact absurd hn (by simp)
   | cons x r => simp at this
  | cons y cs => exact .drop (ih fun i hi => by have := h i hi; rw [show o + 1 + i = (o + i) + 1 from by omega] at this; simpa using this)
/-! ### what a hand does -/
def segLen (s : Int) : Nat := (firstS s).2.1.toNat
def wantH (h : Hd) : Int := (whereS (h.asks.getD h.nx 0)).1
def mayH (h : Hd) (y : Sg) : Bool := if h.line = 1 then y.done || decide (y.built = 0) else decide (h.line = 2 ∨ h.line = 3)
def stepH (s : Int) (h : Hd) (y : Sg) : Hd × Sg :=
 if h.line = 2 then ({ h with line := if y.laid + 1 = segLen s then 3 else 2 }, { y with laid := y.laid + 1 })
 else if h.line = 3 then ({ h with line := 1 }, { y with done := true })
 else if y.done = false then ({ h with line := 2, tk := s }, { y with built := y.built + 1 })
 else ({ h with nx := h.nx + 1, line := if h.nx + 1 = h.asks.length then 4 else 1 }, y)
def sgF (G : GW) (s : Int) : Sg := if 0 ≤ s ∧ s < 41 then G.sg.getD s.toNat ⟨0, 0, false⟩ else ⟨0, 0, false⟩
theorem sgF_at {X : Gm} {s : Nat} {y : Sm} (hs : s < 41) (h : X.sg[s]? = some y) : sgF X.abs (s : Int) = y.s := by
 unfold sgF Gm.abs
 rw [if_pos (show 0 ≤ (s : Int) ∧ (s : Int) < 41 by omega)]
 simp [List.getD, h]
theorem okarg {w0 w : World} {σ : List As} {b : Nat} {E : TypeId} {cs : List Value} (hw : St w0 w0.heap.size None' σ w) (h : (As.blk b E cs).ok w0) : (As.blk b E cs).ok w :=
 (hw.ext.block b (Array.getElem?_eq_some_iff.1 (show w0.heap[b]? = some _ from h)).1 (fun e => e)).trans h
theorem sgF_done (G : GW) (s : Int) : decide ((0 ≤ s ∧ s < 41) ∧ (sgF G s).done = true) = (sgF G s).done := by
 unfold sgF
 split <;> simp [*]
theorem segR_ln (s : Int) : (segR s).length = segLen s := segR_len s
theorem segsA_get {l : List Int} {i : Nat} (h : i < l.length) : (segsA l).getD i 0 = (whereS (l.getD i 0)).1 := by
 simp [segsA, List.getD, h]
theorem plcsA_get {l : List Int} {i : Nat} (h : i < l.length) : (plcsA l).getD i 0 = (whereS (l.getD i 0)).2.1 := by
 simp [plcsA, List.getD, h]
theorem where_bd (q : Int) : (0 ≤ (whereS q).1 ∧ (whereS q).1 ≤ 40) ∧ 0 ≤ (whereS q).2.1 ∧ (whereS q).2.1 ≤ 15 := by
 unfold whereS
 split <;> dsimp only <;> omega
theorem segsA_rg (l : List Int) : Rg (-9223372036854775808) 9223372036854775807 (segsA l) := fun x hx => by
 obtain ⟨q, _, rfl⟩ := List.mem_map.1 hx
 have := where_bd q
 omega
theorem plcsA_rg (l : List Int) : Rg (-9223372036854775808) 9223372036854775807 (plcsA l) := fun x hx => by
 obtain ⟨q, _, rfl⟩ := List.mem_map.1 hx
 have := where_bd q
 omega
theorem segsA_len (l : List Int) : (segsA l).length = l.length := by simp [segsA]
theorem plcsA_len (l : List Int) : (plcsA l).length = l.length := by simp [plcsA]
theorem hasS (s : Int) (w : World) :
  CallsV P 56 [.int .i64 s] w fun r w' => r = .bool (decide (0 ≤ s ∧ s < 41)) ∧ w = w' := by
 refine enterW Try.func56 rfl Try.ntmps56 rfl ?_
 refine c_seq (c_region (l_assign rfl rfl rfl (l_nil (e_then ?_))))
 refine c_keep [0] (.cons rfl .nil) ?_
 refine c_seq (c_region (l_move rfl rfl rfl ?_))
 refine l_geq rfl rfl rfl rfl ?_
 refine l_move rfl rfl rfl ?_
 apply l_and 2 [] rfl rfl (.cons rfl .nil) rfl rfl (fun _ => rfl) rfl rfl rfl
 ·intro hg1_3
  refine l_move rfl rfl rfl ?_
  refine l_lss rfl rfl rfl rfl ?_
  refine l_nil ?_
  exact e_stays rfl (.cons rfl (congrArg Value.bool (decide_eq_true hg1_3).symm) .nil)
 refine l_assign rfl rfl rfl (l_nil (e_then ?_))
 refine c_keep [2] (.cons rfl .nil) ?_
 refine c_ret ?_
 refine e_done1 Try.results56 rfl ?_
 refine ⟨_, rfl, ?_⟩
 exact ⟨rfl, rfl⟩
theorem BuiltT (b : Nat) (X : Gm) (hX : X.sg.length = 41) (s : Int) (w : World) (hb : (As.blk b 66 (gC X)).ok w) :
  CallsV P 35 [.pointer (some ⟨b, 2, none⟩), .int .i64 s] w fun r w' => r = .int .i64 (sgF X.abs s).built ∧ w = w' := by
 refine enterW Try.func35 rfl Try.ntmps35 rfl ?_
 refine c_seq (c_region (l_assign rfl rfl rfl (l_nil (e_then ?_))))
 refine c_keep [0, 1] (.cons rfl (.cons rfl .nil)) ?_
 refine c_seq (c_seq (c_region (l_move rfl rfl rfl ?_)))
 refine l_callp rfl rfl Try.func56 rfl rfl (.cons rfl .nil) (hasS s _) ?_
 first | refine l_notd rfl rfl rfl ?_ | refine l_not rfl rfl rfl ?_
 refine l_nil (e_then ?_)
 refine c_keep [0, 1, 7] (.cons rfl (.cons rfl (.cons rfl .nil))) ?_
 first | refine c_cond rfl (fun hc0 => ?_) (fun hc0 => ?_) | refine c_condb rfl (fun hc0 => ?_) (fun hc0 => ?_)
 ·skip
  refine c_seq (c_region (l_assign rfl rfl rfl (l_nil (e_then ?_))))
  refine c_keep [4] (.cons rfl .nil) ?_
  refine c_ret ?_
  refine e_then_ret ?_
  refine e_done1 Try.results35 rfl ?_
  refine ⟨_, rfl, ?_⟩
  exact ⟨by rw [show sgF X.abs s = ⟨0, 0, false⟩ from if_neg (by simpa using hc0)] <;> rfl, rfl⟩
 ·skip
  have hin : 0 ≤ s ∧ s < 41 := by simpa using hc0
  obtain ⟨y, hy⟩ : ∃ y, X.sg[s.toNat]? = some y := ⟨X.sg[s.toNat]'(by omega), List.getElem?_eq_getElem (by omega)⟩
  have hsf : sgF X.abs s = y.s := by
   have := sgF_at (s := s.toNat) (by omega) hy
   rwa [show ((s.toNat : Nat) : Int) = s from by omega] at this
  refine c_skip (e_then ?_)
  refine c_keep [0, 1] (.cons rfl (.cons rfl .nil)) ?_
  refine c_seq (c_region (l_move rfl rfl rfl (l_move rfl rfl rfl (l_nilCheck rfl rfl rfl (l_field fo64_0 rfl rfl rfl ?_)))))
  refine l_indexAo (j := s.toNat) (n := 3) rfl rfl Try.underlying62 tz61 rfl rfl (by omega) (by omega) ?_
  refine l_field fo61_1 rfl rfl rfl ?_
  refine l_load_blk (blk_st hb) mem0 rfl rfl Try.underlying3 rfl rfl (gC_at hy 1 (by omega)) ?_
  refine l_assign rfl rfl rfl (l_nil (e_then ?_))
  refine c_keep [4] (.cons rfl .nil) ?_
  refine c_ret ?_
  refine e_done1 Try.results35 rfl ?_
  refine ⟨_, rfl, ?_⟩
  exact ⟨by rw [hsf], rfl⟩
theorem CompleteT (b : Nat) (X : Gm) (hX : X.sg.length = 41) (s : Int) (w : World) (hb : (As.blk b 66 (gC X)).ok w) :
  CallsV P 38 [.pointer (some ⟨b, 2, none⟩), .int .i64 s] w fun r w' => r = .bool (sgF X.abs s).done ∧ w = w' := by
 refine enterW Try.func38 rfl Try.ntmps38 rfl ?_
 refine c_seq (c_region (l_assign rfl rfl rfl (l_nil (e_then ?_))))
 refine c_keep [0, 1] (.cons rfl (.cons rfl .nil)) ?_
 refine c_seq (c_region (l_move rfl rfl rfl ?_))
 refine l_callp rfl rfl Try.func56 rfl rfl (.cons rfl .nil) (hasS s _) ?_
 refine l_move rfl rfl rfl ?_
 apply l_and (q := (sgF X.abs s).done = true) 7 [] rfl rfl (.cons rfl .nil) rfl rfl (fun _ => rfl) rfl rfl rfl
 ·intro hg1_3
  obtain ⟨y, hy⟩ : ∃ y, X.sg[s.toNat]? = some y := ⟨X.sg[s.toNat]'(by omega), List.getElem?_eq_getElem (by omega)⟩
  have hsf : sgF X.abs s = y.s := by
   have := sgF_at (s := s.toNat) (by omega) hy
   rwa [show ((s.toNat : Nat) : Int) = s from by omega] at this
  refine l_move rfl rfl rfl (l_move rfl rfl rfl (l_nilCheck rfl rfl rfl (l_field fo64_0 rfl rfl rfl ?_)))
  refine l_indexAo (j := s.toNat) (n := 3) rfl rfl Try.underlying62 tz61 rfl rfl (by omega) (by omega) ?_
  refine l_field fo61_2 rfl rfl rfl ?_
  refine l_load_blk (blk_st hb) mem0 rfl rfl Try.underlying4 rfl rfl (gC_at hy 2 (by omega)) ?_
  refine l_turn (s := 14) (v' := .bool (decide ((sgF X.abs s).done = true))) rfl (by rw [hsf]; simp) ?_
  refine l_nil ?_
  exact e_stays rfl (.cons rfl (congrArg Value.bool (decide_eq_true hg1_3).symm) .nil)
  all_goals infer_instance
 refine l_assign rfl rfl rfl (l_nil (e_then ?_))
 refine c_keep [4] (.cons rfl .nil) ?_
 refine c_ret ?_
 refine e_done1 Try.results38 rfl ?_
 refine ⟨_, rfl, ?_⟩
 exact ⟨congrArg Value.bool (sgF_done _ _), rfl⟩
theorem LaidT (b : Nat) (X : Gm) (hX : X.sg.length = 41) (s : Int) (hls : ∀ (s : Nat) y, X.sg[s]? = some y → y.s.laid ≤ segLen (s : Int)) (w : World) (hb : (As.blk b 66 (gC X)).ok w) (hr : ∀ (s : Nat) y, X.sg[s]? = some y → IK w 2 y.v ((segR (s : Int)).take y.s.laid)) :
  CallsV P 41 [.pointer (some ⟨b, 2, none⟩), .int .i64 s] w fun r w' => r = .int .i64 ((sgF X.abs s).laid : Int) ∧ w = w' := by
 refine enterW Try.func41 rfl Try.ntmps41 rfl ?_
 refine c_seq (c_region (l_assign rfl rfl rfl (l_nil (e_then ?_))))
 refine c_keep [0, 1] (.cons rfl (.cons rfl .nil)) ?_
 refine c_seq (c_seq (c_region (l_move rfl rfl rfl ?_)))
 refine l_callp rfl rfl Try.func56 rfl rfl (.cons rfl .nil) (hasS s _) ?_
 first | refine l_notd rfl rfl rfl ?_ | refine l_not rfl rfl rfl ?_
 refine l_nil (e_then ?_)
 refine c_keep [0, 1, 7] (.cons rfl (.cons rfl (.cons rfl .nil))) ?_
 first | refine c_cond rfl (fun hc0 => ?_) (fun hc0 => ?_) | refine c_condb rfl (fun hc0 => ?_) (fun hc0 => ?_)
 ·skip
  refine c_seq (c_region (l_assign rfl rfl rfl (l_nil (e_then ?_))))
  refine c_keep [4] (.cons rfl .nil) ?_
  refine c_ret ?_
  refine e_then_ret ?_
  refine e_done1 Try.results41 rfl ?_
  refine ⟨_, rfl, ?_⟩
  exact ⟨by rw [show sgF X.abs s = ⟨0, 0, false⟩ from if_neg (by simpa using hc0)] <;> rfl, rfl⟩
 ·skip
  have hin : 0 ≤ s ∧ s < 41 := by simpa using hc0
  obtain ⟨y, hy⟩ : ∃ y, X.sg[s.toNat]? = some y := ⟨X.sg[s.toNat]'(by omega), List.getElem?_eq_getElem (by omega)⟩
  have hsf : sgF X.abs s = y.s := by
   have := sgF_at (s := s.toNat) (by omega) hy
   rwa [show ((s.toNat : Nat) : Int) = s from by omega] at this
  have hln : ((segR ((s.toNat : Nat) : Int)).take y.s.laid).length = y.s.laid := by
   have := hls _ _ hy
   rw [List.length_take, segR_ln]; omega
  refine c_skip (e_then ?_)
  refine c_keep [0, 1] (.cons rfl (.cons rfl .nil)) ?_
  refine c_seq (c_region (l_move rfl rfl rfl (l_move rfl rfl rfl (l_nilCheck rfl rfl rfl (l_field fo64_0 rfl rfl rfl ?_)))))
  refine l_indexAo (j := s.toNat) (n := 3) rfl rfl Try.underlying62 tz61 rfl rfl (by omega) (by omega) ?_
  refine l_field fo61_0 rfl rfl rfl ?_
  refine l_load_blk (blk_st hb) mem0 rfl rfl Try.underlying34 rfl rfl (gC_at hy 0 (by omega)) ?_
  refine k_len rfl rfl Try.underlying34 rfl (hr _ _ hy) ?_
  refine l_assign rfl rfl rfl (l_nil (e_then ?_))
  refine c_keep [4] (.cons rfl .nil) ?_
  refine c_ret ?_
  refine e_done1 Try.results41 rfl ?_
  refine ⟨_, rfl, ?_⟩
  exact ⟨by rw [hln, hsf], rfl⟩
theorem RowT (b : Nat) (X : Gm) (hX : X.sg.length = 41) (s j : Nat) (hs : s < 41) (y : Sm) (hy : X.sg[s]? = some y) (hj : j < y.s.laid) (hl : y.s.laid ≤ segLen (s : Int)) (w : World) (hb : (As.blk b 66 (gC X)).ok w) (hr : IK w 2 y.v ((segR (s : Int)).take y.s.laid)) :
  CallsV P 50 [.pointer (some ⟨b, 2, none⟩), .int .i64 (s : Int), .int .i64 (j : Int)] w fun r w' => r = wideV (entS ((firstS (s : Int)).1 + (j : Int))).1 ∧ Grow w w' [] := by
 refine enterW Try.func50 rfl Try.ntmps50 rfl ?_
 have hw0 := St.start w
 refine c_seq (c_region ?_)
 refine l_alloc hw0 ta77 rfl rfl (fun b0_0 w1 hw1 => ?_)
 try clear hw0
 refine l_nil (e_then (c_seq (c_region ?_)))
 have hrow : ((segR (s : Int)).take y.s.laid)[j]? = some (wrow (entS ((firstS (s : Int)).1 + (j : Int))).1) := by
  rw [List.getElem?_take_of_lt hj]
  exact segR_at (s : Int) j (by have := hl; unfold segLen at this; omega)
 have hrl := (List.getElem?_eq_some_iff.1 hrow).1
 refine l_move rfl rfl rfl (l_move rfl rfl rfl (l_nilCheck rfl rfl rfl (l_field fo64_0 rfl rfl rfl ?_)))
 refine l_indexAo (j := s) (n := 3) rfl rfl Try.underlying62 tz61 rfl rfl rfl hs ?_
 refine l_field fo61_0 rfl rfl rfl ?_
 refine l_load_blk (blk_st (okarg hw1 hb)) mem0 rfl rfl Try.underlying34 rfl rfl (gC_at hy 0 (by omega)) ?_
 refine l_move rfl rfl rfl ?_
 refine k_addr (j := j) rfl rfl Try.underlying34 tz77 (by decide) rfl rfl (hw1.ikarg hr) rfl hrl (fun A1_8 c1_8 hA1_8 => ?_)
 refine k_load (j := j) rfl rfl Try.underlying77 rfl tz77 rfl hA1_8 (hw1.ikarg hr) hrow ?_
 refine l_store_blks hw1 .head (.zero (.zero .nil)) rfl tz77 rfl rfl (by first | (simp [Value.oneCell']; done) | (intro u hu; simp only [List.mem_cons, List.not_mem_nil, or_false] at hu; rcases hu with rfl | rfl <;> first | rfl | assumption)) (fun w2 hw2 => ?_)
 try clear hw1
 refine l_nil (e_then ?_)
 refine c_keep [6] (.cons rfl .nil) ?_
 refine c_ret ?_
 refine e_doneC Try.results50 (.cell rfl (load_agg_run hw2 mem0 Try.underlying77 rfl tz77 (.take (.take .nil))) .nil) ?_
 refine ⟨_, rfl, ?_⟩
 have hw3 := St.del .head hw2
 try clear hw2
 exact ⟨rfl, hw3.grows⟩
theorem LineW (b : Nat) (m : Hm) (w : World) (hk : (As.blk m.wb 99 (wkC b m)).ok w) :
  CallsV P 52 [ptr m.wb] w fun r w' => r = .int .i64 m.h.line ∧ w = w' := by
 refine enterW Try.func52 rfl Try.ntmps52 rfl ?_
 refine c_seq (c_region (l_assign rfl rfl rfl (l_nil (e_then ?_))))
 refine c_keep [0] (.cons rfl .nil) ?_
 refine c_seq (c_region (l_move rfl rfl rfl (l_nilCheck rfl rfl rfl (l_field fo99_3 rfl rfl rfl ?_))))
 refine l_load_blk (blk_st hk) mem0 rfl rfl Try.underlying3 rfl rfl (rfl) ?_
 refine l_assign rfl rfl rfl (l_nil (e_then ?_))
 refine c_keep [2] (.cons rfl .nil) ?_
 refine c_ret ?_
 refine e_done1 Try.results52 rfl ?_
 refine ⟨_, rfl, ?_⟩
 exact ⟨rfl, rfl⟩
theorem NextW (b : Nat) (m : Hm) (w : World) (hk : (As.blk m.wb 99 (wkC b m)).ok w) :
  CallsV P 48 [ptr m.wb] w fun r w' => r = .int .i64 (m.h.nx : Int) ∧ w = w' := by
 refine enterW Try.func48 rfl Try.ntmps48 rfl ?_
 refine c_seq (c_region (l_assign rfl rfl rfl (l_nil (e_then ?_))))
 refine c_keep [0] (.cons rfl .nil) ?_
 refine c_seq (c_region (l_move rfl rfl rfl (l_nilCheck rfl rfl rfl (l_field fo99_2 rfl rfl rfl ?_))))
 refine l_load_blk (blk_st hk) mem0 rfl rfl Try.underlying3 rfl rfl (rfl) ?_
 refine l_assign rfl rfl rfl (l_nil (e_then ?_))
 refine c_keep [2] (.cons rfl .nil) ?_
 refine c_ret ?_
 refine e_done1 Try.results48 rfl ?_
 refine ⟨_, rfl, ?_⟩
 exact ⟨rfl, rfl⟩
theorem SegmentW (b : Nat) (m : Hm) (hnx : (m.h.line = 2 ∨ m.h.line = 3) → m.h.nx < m.h.asks.length) (w : World) (hk : (As.blk m.wb 99 (wkC b m)).ok w) (hn : IV w m.vn (ints .i64 (segsA m.h.asks))) :
  CallsV P 53 [ptr m.wb] w fun r w' => r = .int .i64 (if m.h.line = 2 ∨ m.h.line = 3 then wantH m.h else -1) ∧ Grow w w' [] := by
 refine enterW Try.func53 rfl Try.ntmps53 rfl ?_
 have hw0 := St.start w
 refine c_seq (c_region (l_assign rfl rfl rfl (l_nil (e_then ?_))))
 refine c_keep [0] (.cons rfl .nil) ?_
 refine c_seq (c_seq (c_region (l_move rfl rfl rfl (l_nilCheck rfl rfl rfl (l_field fo99_3 rfl rfl rfl ?_)))))
 refine l_load_blk (blk_st hk) mem0 rfl rfl Try.underlying3 rfl rfl (rfl) ?_
 refine l_eql rfl rfl rfl rfl ?_
 refine l_move rfl rfl rfl ?_
 apply l_or 5 [0] rfl rfl (.cons rfl (.cons rfl .nil)) rfl rfl (fun _ => rfl) rfl rfl rfl
 ·intro hg1_6
  refine l_move rfl rfl rfl (l_nilCheck rfl rfl rfl (l_field fo99_3 rfl rfl rfl ?_))
  refine l_load_blk (blk_st hk) mem0 rfl rfl Try.underlying3 rfl rfl (rfl) ?_
  refine l_eql rfl rfl rfl rfl ?_
  refine l_nil ?_
  exact e_stays rfl (.cons rfl (congrArg Value.bool (decide_eq_false hg1_6).symm) (.cons rfl rfl .nil))
  all_goals infer_instance
 refine l_nil (e_then ?_)
 refine c_keep [0, 14] (.cons rfl (.cons rfl .nil)) ?_
 first | refine c_cond rfl (fun hc0 => ?_) (fun hc0 => ?_) | refine c_condb rfl (fun hc0 => ?_) (fun hc0 => ?_)
 ·skip
  refine c_seq ?_
  have hw1 := hw0.drewn
  try clear hw0
  have hnx := hnx (by simpa using hc0)
  have hsl : (segsA m.h.asks).length = m.h.asks.length := segsA_len _
  obtain ⟨A2, c2, hv2⟩ := (hw1.iarg hn).lies (by simp; omega)
  have hsg := segsA_rg m.h.asks
  refine c_any (n := 11) [false, false, false, false, false, false, false, false, false, false, false] (fun wS => (As.blk m.wb 99 (wkC b m)).ok wS ∧ IS wS .i64 m.vn (segsA m.h.asks)) (by kernel_rfl) rfl rfl ?_
  apply a_take (L' := [true, false, false, false, false, false, false, false, false, false, false]) 0 rfl (by kernel_rfl) (by kernel_rfl) (by kernel_rfl) rfl rfl rfl rfl rfl (⟨okarg hw1 hk, hw1.iarg hn⟩)
  ·intro wS sS
   refine l_move rfl rfl rfl (l_nil ?_)
   exact e_got rfl
  refine a_nil (L' := [true, true, false, false, false, false, false, false, false, false, false]) 1 rfl (by kernel_rfl) (by kernel_rfl) (by kernel_rfl) rfl rfl rfl (⟨okarg hw1 hk, hw1.iarg hn⟩) rfl ?_
  apply a_take (L' := [true, true, true, false, false, false, false, false, false, false, false]) 2 rfl (by kernel_rfl) (by kernel_rfl) (by kernel_rfl) rfl rfl rfl rfl rfl (⟨okarg hw1 hk, hw1.iarg hn⟩)
  ·intro wS sS
   refine l_field fo99_1 rfl rfl rfl (l_nil ?_)
   exact e_got rfl
  apply a_take (L' := [true, true, true, true, false, false, false, false, false, false, false]) 3 rfl (by kernel_rfl) (by kernel_rfl) (by kernel_rfl) rfl rfl rfl rfl rfl (⟨okarg hw1 hk, hw1.iarg hn⟩)
  ·intro wS sS
   refine l_load_blk (blk_st sS.1) mem0 rfl rfl Try.underlying23 rfl rfl rfl ?_
   refine l_nil ?_
   exact e_got rfl
  apply a_take (L' := [true, true, true, true, true, false, false, false, false, false, false]) 4 rfl (by kernel_rfl) (by kernel_rfl) (by kernel_rfl) rfl rfl rfl rfl rfl (⟨okarg hw1 hk, hw1.iarg hn⟩)
  ·intro wS sS
   refine l_move rfl rfl rfl (l_nil ?_)
   exact e_got rfl
  refine a_nil (L' := [true, true, true, true, true, true, false, false, false, false, false]) 5 rfl (by kernel_rfl) (by kernel_rfl) (by kernel_rfl) rfl rfl rfl (⟨okarg hw1 hk, hw1.iarg hn⟩) rfl ?_
  apply a_take (L' := [true, true, true, true, true, true, true, false, false, false, false]) 6 rfl (by kernel_rfl) (by kernel_rfl) (by kernel_rfl) rfl rfl rfl rfl rfl (⟨okarg hw1 hk, hw1.iarg hn⟩)
  ·intro wS sS
   refine l_field fo99_2 rfl rfl rfl (l_nil ?_)
   exact e_got rfl
  apply a_take (L' := [true, true, true, true, true, true, true, true, false, false, false]) 7 rfl (by kernel_rfl) (by kernel_rfl) (by kernel_rfl) rfl rfl rfl rfl rfl (⟨okarg hw1 hk, hw1.iarg hn⟩)
  ·intro wS sS
   refine l_load_blk (blk_st sS.1) mem0 rfl rfl Try.underlying3 rfl rfl rfl ?_
   refine l_nil ?_
   exact e_got rfl
  apply a_take (L' := [true, true, true, true, true, true, true, true, true, false, false]) 8 rfl (by kernel_rfl) (by kernel_rfl) (by kernel_rfl) rfl rfl rfl rfl rfl (⟨okarg hw1 hk, hw1.iarg hn⟩)
  ·intro wS sS
   refine v_addrx (j := m.h.nx) rfl rfl Try.underlying23 tz3 rfl rfl hv2 (by first | rfl | omega) (by first | omega | (simp; done) | (simp; omega)) ?_
   refine l_nil ?_
   exact e_got rfl
  apply a_take (L' := [true, true, true, true, true, true, true, true, true, true, false]) 9 rfl (by kernel_rfl) (by kernel_rfl) (by kernel_rfl) rfl rfl rfl rfl rfl (⟨okarg hw1 hk, hw1.iarg hn⟩)
  ·intro wS sS
   refine v_loadi rfl rfl Try.underlying3 rfl hv2 (by first | exact sS.2 | exact hw1.iarg hn | assumption) (by assumption) (by first | omega | (simp; done) | (simp; omega)) (fun hb2_9 => ?_)
   refine l_nil ?_
   exact e_got rfl
  apply a_take (L' := [true, true, true, true, true, true, true, true, true, true, true]) 10 rfl (by kernel_rfl) (by kernel_rfl) (by kernel_rfl) rfl rfl rfl rfl rfl (⟨okarg hw1 hk, hw1.iarg hn⟩)
  ·intro wS sS
   refine l_assign rfl rfl rfl (l_nil ?_)
   exact e_got rfl
  refine a_done (by kernel_rfl) ?_
  refine e_then ?_
  refine c_keep [2] (.cons rfl .nil) ?_
  refine c_ret ?_
  refine e_then_ret ?_
  refine e_done1 Try.results53 rfl ?_
  refine ⟨_, rfl, ?_⟩
  refine ⟨?_, hw1.grows⟩
  rw [if_pos (by simpa using hc0)]
  exact congrArg (Value.int .i64) (segsA_get hnx)
 ·skip
  refine c_skip (e_then ?_)
  refine c_keep [] .nil ?_
  refine c_seq (c_region (l_assign rfl rfl rfl (l_nil (e_then ?_))))
  refine c_ret ?_
  refine e_done1 Try.results53 rfl ?_
  refine ⟨_, rfl, ?_⟩
  refine ⟨?_, hw0.grows⟩
  rw [if_neg (by simpa using hc0)]
theorem MayW (b : Nat) (X : Gm) (m : Hm) (s : Nat) (hs : s < 41) (y : Sm) (hy : X.sg[s]? = some y) (hyv : y.v.oneCell' = true) (hnx : m.h.line = 1 → m.h.nx < m.h.asks.length ∧ wantH m.h = (s : Int)) (w : World) (hb : (As.blk b 66 (gC X)).ok w) (hk : (As.blk m.wb 99 (wkC b m)).ok w) (hn : IV w m.vn (ints .i64 (segsA m.h.asks))) :
  CallsV P 46 [ptr m.wb] w fun r w' => r = .bool (mayH m.h y.s) ∧ Grow w w' [] := by
 refine enterW Try.func46 rfl Try.ntmps46 rfl ?_
 have hw0 := St.start w
 refine c_seq (c_region (l_assign rfl rfl rfl (l_nil (e_then ?_))))
 refine c_keep [0] (.cons rfl .nil) ?_
 refine c_seq (c_seq (c_region (l_move rfl rfl rfl (l_nilCheck rfl rfl rfl (l_field fo99_3 rfl rfl rfl ?_)))))
 refine l_load_blk (blk_st hk) mem0 rfl rfl Try.underlying3 rfl rfl (rfl) ?_
 refine l_nil (e_then ?_)
 refine c_keep [0, 7] (.cons rfl (.cons rfl .nil)) ?_
 refine c_block (c_seq (c_region ?_))
 refine l_eql rfl rfl rfl rfl ?_
 refine l_assign rfl rfl rfl (l_nil (e_then ?_))
 refine c_keep [0, 7, 8] (.cons rfl (.cons rfl (.cons rfl .nil))) ?_
 first | refine c_cond rfl (fun hc0 => ?_) (fun hc0 => ?_) | refine c_condb rfl (fun hc0 => ?_) (fun hc0 => ?_)
 ·skip
  refine c_seq ?_
  have hw1 := hw0.drewn
  try clear hw0
  obtain ⟨hnx, hwn⟩ := hnx (by simpa using hc0)
  have hsl : (segsA m.h.asks).length = m.h.asks.length := segsA_len _
  have hwt : (segsA m.h.asks).getD m.h.nx 0 = (s : Int) := by rw [segsA_get hnx]; exact hwn
  obtain ⟨A3, c3, hv3⟩ := (hw1.iarg hn).lies (by simp; omega)
  have hsg := segsA_rg m.h.asks
  refine c_any (n := 20) [false, false, false, false, false, false, false, false, false, false, false, false, false, false, false, false, false, false, false, false] (fun wS => (As.blk b 66 (gC X)).ok wS ∧ (As.blk m.wb 99 (wkC b m)).ok wS ∧ IS wS .i64 m.vn (segsA m.h.asks)) (by kernel_rfl) rfl rfl ?_
  apply a_take (L' := [true, false, false, false, false, false, false, false, false, false, false, false, false, false, false, false, false, false, false, false]) 0 rfl (by kernel_rfl) (by kernel_rfl) (by kernel_rfl) rfl rfl rfl rfl rfl (⟨okarg hw1 hb, okarg hw1 hk, hw1.iarg hn⟩)
  ·intro wS sS
   refine l_move rfl rfl rfl (l_nil ?_)
   exact e_got rfl
  refine a_nil (L' := [true, true, false, false, false, false, false, false, false, false, false, false, false, false, false, false, false, false, false, false]) 1 rfl (by kernel_rfl) (by kernel_rfl) (by kernel_rfl) rfl rfl rfl (⟨okarg hw1 hb, okarg hw1 hk, hw1.iarg hn⟩) rfl ?_
  apply a_take (L' := [true, true, true, false, false, false, false, false, false, false, false, false, false, false, false, false, false, false, false, false]) 2 rfl (by kernel_rfl) (by kernel_rfl) (by kernel_rfl) rfl rfl rfl rfl rfl (⟨okarg hw1 hb, okarg hw1 hk, hw1.iarg hn⟩)
  ·intro wS sS
   refine l_field fo99_0 rfl rfl rfl (l_nil ?_)
   exact e_got rfl
  apply a_take (L' := [true, true, true, true, false, false, false, false, false, false, false, false, false, false, false, false, false, false, false, false]) 3 rfl (by kernel_rfl) (by kernel_rfl) (by kernel_rfl) rfl rfl rfl rfl rfl (⟨okarg hw1 hb, okarg hw1 hk, hw1.iarg hn⟩)
  ·intro wS sS
   refine l_load_blk (blk_st sS.2.1) mem0 rfl rfl Try.underlying85 rfl rfl rfl ?_
   refine l_nil ?_
   exact e_got rfl
  refine a_nil (L' := [true, true, true, true, false, false, false, false, false, false, false, false, false, false, true, false, false, false, false, false]) 14 rfl (by kernel_rfl) (by kernel_rfl) (by kernel_rfl) rfl rfl rfl (⟨okarg hw1 hb, okarg hw1 hk, hw1.iarg hn⟩) rfl ?_
  apply a_take (L' := [true, true, true, true, true, false, false, false, false, false, false, false, false, false, true, false, false, false, false, false]) 4 rfl (by kernel_rfl) (by kernel_rfl) (by kernel_rfl) rfl rfl rfl rfl rfl (⟨okarg hw1 hb, okarg hw1 hk, hw1.iarg hn⟩)
  ·intro wS sS
   refine l_move rfl rfl rfl (l_nil ?_)
   exact e_got rfl
  refine a_nil (L' := [true, true, true, true, true, true, false, false, false, false, false, false, false, false, true, false, false, false, false, false]) 5 rfl (by kernel_rfl) (by kernel_rfl) (by kernel_rfl) rfl rfl rfl (⟨okarg hw1 hb, okarg hw1 hk, hw1.iarg hn⟩) rfl ?_
  apply a_take (L' := [true, true, true, true, true, true, true, false, false, false, false, false, false, false, true, false, false, false, false, false]) 6 rfl (by kernel_rfl) (by kernel_rfl) (by kernel_rfl) rfl rfl rfl rfl rfl (⟨okarg hw1 hb, okarg hw1 hk, hw1.iarg hn⟩)
  ·intro wS sS
   refine l_field fo99_1 rfl rfl rfl (l_nil ?_)
   exact e_got rfl
  apply a_take (L' := [true, true, true, true, true, true, true, true, false, false, false, false, false, false, true, false, false, false, false, false]) 7 rfl (by kernel_rfl) (by kernel_rfl) (by kernel_rfl) rfl rfl rfl rfl rfl (⟨okarg hw1 hb, okarg hw1 hk, hw1.iarg hn⟩)
  ·intro wS sS
   refine l_load_blk (blk_st sS.2.1) mem0 rfl rfl Try.underlying23 rfl rfl rfl ?_
   refine l_nil ?_
   exact e_got rfl
  apply a_take (L' := [true, true, true, true, true, true, true, true, true, false, false, false, false, false, true, false, false, false, false, false]) 8 rfl (by kernel_rfl) (by kernel_rfl) (by kernel_rfl) rfl rfl rfl rfl rfl (⟨okarg hw1 hb, okarg hw1 hk, hw1.iarg hn⟩)
  ·intro wS sS
   refine l_move rfl rfl rfl (l_nil ?_)
   exact e_got rfl
  refine a_nil (L' := [true, true, true, true, true, true, true, true, true, true, false, false, false, false, true, false, false, false, false, false]) 9 rfl (by kernel_rfl) (by kernel_rfl) (by kernel_rfl) rfl rfl rfl (⟨okarg hw1 hb, okarg hw1 hk, hw1.iarg hn⟩) rfl ?_
  apply a_take (L' := [true, true, true, true, true, true, true, true, true, true, true, false, false, false, true, false, false, false, false, false]) 10 rfl (by kernel_rfl) (by kernel_rfl) (by kernel_rfl) rfl rfl rfl rfl rfl (⟨okarg hw1 hb, okarg hw1 hk, hw1.iarg hn⟩)
  ·intro wS sS
   refine l_field fo99_2 rfl rfl rfl (l_nil ?_)
   exact e_got rfl
  apply a_take (L' := [true, true, true, true, true, true, true, true, true, true, true, true, false, false, true, false, false, false, false, false]) 11 rfl (by kernel_rfl) (by kernel_rfl) (by kernel_rfl) rfl rfl rfl rfl rfl (⟨okarg hw1 hb, okarg hw1 hk, hw1.iarg hn⟩)
  ·intro wS sS
   refine l_load_blk (blk_st sS.2.1) mem0 rfl rfl Try.underlying3 rfl rfl rfl ?_
   refine l_nil ?_
   exact e_got rfl
  apply a_take (L' := [true, true, true, true, true, true, true, true, true, true, true, true, true, false, true, false, false, false, false, false]) 12 rfl (by kernel_rfl) (by kernel_rfl) (by kernel_rfl) rfl rfl rfl rfl rfl (⟨okarg hw1 hb, okarg hw1 hk, hw1.iarg hn⟩)
  ·intro wS sS
   refine v_addrx (j := m.h.nx) rfl rfl Try.underlying23 tz3 rfl rfl hv3 (by first | rfl | omega) (by first | omega | (simp; done) | (simp; omega)) ?_
   refine l_nil ?_
   exact e_got rfl
  apply a_take (L' := [true, true, true, true, true, true, true, true, true, true, true, true, true, true, true, false, false, false, false, false]) 13 rfl (by kernel_rfl) (by kernel_rfl) (by kernel_rfl) rfl rfl rfl rfl rfl (⟨okarg hw1 hb, okarg hw1 hk, hw1.iarg hn⟩)
  ·intro wS sS
   refine v_loadi rfl rfl Try.underlying3 rfl hv3 (by first | exact sS.2.2 | exact hw1.iarg hn | assumption) (by assumption) (by first | omega | (simp; done) | (simp; omega)) (fun hb3_13 => ?_)
   refine l_nil ?_
   exact e_got rfl
  apply a_take (L' := [true, true, true, true, true, true, true, true, true, true, true, true, true, true, true, true, false, false, false, false]) 15 rfl (by kernel_rfl) (by kernel_rfl) (by kernel_rfl) rfl rfl rfl rfl rfl (⟨okarg hw1 hb, okarg hw1 hk, hw1.iarg hn⟩)
  ·intro wS sS
   refine l_field fo64_0 rfl rfl rfl (l_nil ?_)
   exact e_got rfl
  apply a_take (L' := [true, true, true, true, true, true, true, true, true, true, true, true, true, true, true, true, true, false, false, false]) 16 rfl (by kernel_rfl) (by kernel_rfl) (by kernel_rfl) rfl rfl rfl rfl rfl (⟨okarg hw1 hb, okarg hw1 hk, hw1.iarg hn⟩)
  ·intro wS sS
   refine l_indexAo (j := s) (n := 3) rfl rfl Try.underlying62 tz61 rfl rfl (by omega) hs ?_
   refine l_nil ?_
   exact e_got rfl
  apply a_take (L' := [true, true, true, true, true, true, true, true, true, true, true, true, true, true, true, true, true, true, false, false]) 17 rfl (by kernel_rfl) (by kernel_rfl) (by kernel_rfl) rfl rfl rfl rfl rfl (⟨okarg hw1 hb, okarg hw1 hk, hw1.iarg hn⟩)
  ·intro wS sS
   refine l_load_agg (blk_st sS.1) mem0 rfl rfl Try.underlying61 rfl tz61 rfl (win_of (by decide) rfl fun i hi => gC_at hy i hi) ?_
   refine l_nil ?_
   exact e_got rfl
  refine a_one (L' := [true, true, true, true, true, true, true, true, true, true, true, true, true, true, true, true, true, true, true, false]) 18 (by kernel_rfl) rfl rfl ?_
  refine l_alloc hw1 ta61 rfl rfl (fun b3_18 w2 hw2 => ?_)
  try clear hw1
  refine l_nil ?_
  refine e_any (⟨okarg hw2 hb, okarg hw2 hk, hw2.iarg hn⟩) ?_
  refine a_one (L' := [true, true, true, true, true, true, true, true, true, true, true, true, true, true, true, true, true, true, true, true]) 19 (by kernel_rfl) rfl rfl ?_
  refine l_store_blks hw2 .head (.zero (.zero (.zero .nil))) rfl tz61 rfl rfl (by first | (simp [Value.oneCell']; done) | (intro u hu; simp only [List.mem_cons, List.not_mem_nil, or_false] at hu; rcases hu with rfl | rfl | rfl <;> first | rfl | assumption)) (fun w3 hw3 => ?_)
  try clear hw2
  refine l_nil ?_
  refine e_any (⟨okarg hw3 hb, okarg hw3 hk, hw3.iarg hn⟩) ?_
  refine a_done (by kernel_rfl) ?_
  refine e_then ?_
  refine c_keep [3] (.cons rfl .nil) ?_
  refine c_seq (c_region (l_field fo61_2 rfl rfl rfl ?_))
  refine l_load_blk hw3 mem0 rfl rfl Try.underlying4 rfl rfl rfl ?_
  refine l_turn (s := 29) (v' := .bool (decide (y.s.done = true))) rfl (by simp) ?_
  refine l_move rfl rfl rfl ?_
  apply l_or 3 [] rfl rfl (.cons rfl .nil) rfl rfl (fun _ => rfl) rfl rfl rfl
  ·intro hg4_3
   refine l_field fo61_1 rfl rfl rfl ?_
   refine l_load_blk hw3 mem0 rfl rfl Try.underlying3 rfl rfl rfl ?_
   refine l_eql rfl rfl rfl rfl ?_
   refine l_nil ?_
   exact e_stays rfl (.cons rfl (congrArg Value.bool (decide_eq_false hg4_3).symm) .nil)
   all_goals infer_instance
  refine l_assign rfl rfl rfl (l_nil (e_then ?_))
  refine c_keep [2] (.cons rfl .nil) ?_
  refine c_ret ?_
  refine e_blk_ret ?_
  refine e_then_ret ?_
  refine e_done1 Try.results46 rfl ?_
  refine ⟨_, rfl, ?_⟩
  have hw4 := St.del .head hw3
  try clear hw3
  refine ⟨congrArg Value.bool ?_, hw4.grows⟩
  unfold mayH
  simp at *
  first | (simp_all; done) | (simp_all; omega)
 ·skip
  refine c_seq (c_seq (c_region ?_))
  refine l_eql rfl rfl rfl rfl ?_
  refine l_assign rfl rfl rfl (l_nil (e_then ?_))
  refine c_keep [7, 35] (.cons rfl (.cons rfl .nil)) ?_
  first | refine c_cond rfl (fun hc1 => ?_) (fun hc1 => ?_) | refine c_condb rfl (fun hc1 => ?_) (fun hc1 => ?_)
  ·skip
   refine c_skip (e_then ?_)
   refine c_keep [35] (.cons rfl .nil) ?_
   first | refine c_cond rfl (fun hc2 => ?_) (fun hc2 => ?_) | refine c_condb rfl (fun hc2 => ?_) (fun hc2 => ?_)
   ·skip
    refine c_seq (c_region (l_assign rfl rfl rfl (l_nil (e_then ?_))))
    refine c_keep [2] (.cons rfl .nil) ?_
    refine c_ret ?_
    refine e_blk_ret ?_
    refine e_then_ret ?_
    refine e_done1 Try.results46 rfl ?_
    refine ⟨_, rfl, ?_⟩
    refine ⟨congrArg Value.bool ?_, hw0.grows⟩
    unfold mayH
    simp at *
    first | (simp_all; done) | (simp_all; omega)
   ·skip
    refine c_skip ?_
    refine e_blk ?_
    refine e_then ?_
    refine c_keep [] .nil ?_
    refine c_seq (c_region (l_assign rfl rfl rfl (l_nil (e_then ?_))))
    refine c_ret ?_
    refine e_done1 Try.results46 rfl ?_
    refine ⟨_, rfl, ?_⟩
    refine ⟨congrArg Value.bool ?_, hw0.grows⟩
    unfold mayH
    simp at *
    first | (simp_all; done) | (simp_all; omega)
  ·skip
   refine c_region ?_
   refine l_eql rfl rfl rfl rfl ?_
   refine l_assign rfl rfl rfl (l_nil (e_then ?_))
   refine c_keep [35] (.cons rfl .nil) ?_
   first | refine c_cond rfl (fun hc3 => ?_) (fun hc3 => ?_) | refine c_condb rfl (fun hc3 => ?_) (fun hc3 => ?_)
   ·skip
    refine c_seq (c_region (l_assign rfl rfl rfl (l_nil (e_then ?_))))
    refine c_keep [2] (.cons rfl .nil) ?_
    refine c_ret ?_
    refine e_blk_ret ?_
    refine e_then_ret ?_
    refine e_done1 Try.results46 rfl ?_
    refine ⟨_, rfl, ?_⟩
    refine ⟨congrArg Value.bool ?_, hw0.grows⟩
    unfold mayH
    simp at *
    first | (simp_all; done) | (simp_all; omega)
   ·skip
    refine c_skip ?_
    refine e_blk ?_
    refine e_then ?_
    refine c_keep [] .nil ?_
    refine c_seq (c_region (l_assign rfl rfl rfl (l_nil (e_then ?_))))
    refine c_ret ?_
    refine e_done1 Try.results46 rfl ?_
    refine ⟨_, rfl, ?_⟩
    refine ⟨congrArg Value.bool ?_, hw0.grows⟩
    unfold mayH
    simp at *
    first | (simp_all; done) | (simp_all; omega)
theorem setAt_o : ∀ {cs : List Value} {o : Nat} (h : o < cs.length) (x : Value), SetAt cs o x (cs.set o x)
 | c :: cs, 0, _, x => .zero
 | c :: cs, o + 1, h, x => .succ (setAt_o (cs := cs) (o := o) (by simpa using h) x)
theorem gC_len {X : Gm} : (gC X).length = X.sg.length * 3 + 3 := by
 have hl := flat_len (X.sg.map segC) (segC_len _)
 rw [List.length_map] at hl
 unfold gC
 simp only [List.length_cons, List.length_append, List.length_nil]
 omega
theorem gC_setAt {X : Gm} {s : Nat} {y : Sm} (y' : Sm) {v : Value} (h : X.sg[s]? = some y) (i : Nat) (hi : i < 3) (he : (segC y).set i v = segC y') : SetAt (gC X) (2 + s * 3 + i) v (gC { X with sg := X.sg.set s y' }) := by
 have hs := (List.getElem?_eq_some_iff.1 h).1
 rw [← gC_set h i hi he]
 exact setAt_o (by rw [gC_len]; omega) v
abbrev wkR (b : Nat) (X : Gm) (m : Hm) (s : Nat) (y : Sm) : List As := [As.blk b 66 (gC X), As.blk m.wb 99 (wkC b m), As.ri 3 .i64 m.vn (segsA m.h.asks), As.rk 77 2 m.vt (takR m.h.tk), srow s y]
abbrev mSt (s : Nat) (m : Hm) (y : Sm) (vt : Value) : Hm := { m with h := (stepH (s : Int) m.h y.s).1, vt := vt }
abbrev ySt (s : Nat) (m : Hm) (y : Sm) (v : Value) : Sm := ⟨(stepH (s : Int) m.h y.s).2, v⟩
theorem own_one {w : World} {E : TypeId} {k : Nat} {v : Value} {rs : List (List Value)} (h : (As.rk E k v rs).ok w) : v.oneCell' = true := by
 have h : Own w E k v rs.length rs.flatten := h
 rcases h.2 with ⟨rfl, _⟩ | ⟨g, off, cap, cur, rfl, _⟩ <;> rfl
structure WkOk (s : Nat) (h : Hd) (y : Sg) : Prop where
 line : h.line = 1 ∨ h.line = 2 ∨ h.line = 3
 nx : h.nx < h.asks.length
 want : wantH h = (s : Int)
 tk : h.line = 2 → h.tk = (s : Int) ∧ y.laid < segLen (s : Int)
 bl : 0 ≤ y.built ∧ y.built ≤ 1
 al : h.asks.length ≤ 64
 one : h.line = 1 → y.done = true ∨ y.built = 0
theorem set_at {α : Type} {L : List α} {i : Nat} {x y : α} (h : L[i]? = some x) : (L.set i y)[i]? = some y := by
 have := (List.getElem?_eq_some_iff.1 h).1
 simp [this]
section
variable {P : Program} {N : Nat} {Q : PostM} {ρ : Env} {w : World} {ops : Array Oper} {rest : List Oper} {d : Nat} {ty : TypeId} {pos : String} {af : Array Edge} {g : Option (Nat × Bool)} {k : Nat} {v : Value} {rs : List (List Value)}
theorem k_addrx {x ix : Operand} {ki : IntKind} {i : Int} {j n c : Nat} {ad : Addr} {T e : TypeId} (hg : wantE ops ρ g = true) (hN : Nat.blt d N = true) (hT : P.underlying T = some (.slice e)) (hsz : (P.info? e).map (·.size) = some k) (hk : 0 < k)
  (hx : evalE ρ x = some v) (hi : evalE ρ ix = some (.int ki i)) (h : IK w k v rs) (hv : v = .slice (some ad) n c) (hij : i = (j : Int)) (hb : j < rs.length)
  (nx : RunL P N ops Q rest ((d, .pointer (some (ad.add (j * k)))) :: ρ) w) : RunL P N ops Q (⟨some d, .indexAddr T x ix, ty, pos, af, g⟩ :: rest) ρ w :=
 k_addr hg hN hT hsz hk hx hi h hij hb fun ad' c' e => by
  rw [hv] at e
  injection e with e1
  injection e1 with e1
  subst e1
  exact nx
end
theorem take_one {s : Nat} {n : Nat} (h : n < segLen (s : Int)) : (segR (s : Int)).take n ++ [wrow (entS ((firstS (s : Int)).1 + (n : Int))).1] = (segR (s : Int)).take (n + 1) := by
 rw [List.take_add_one, segR_at (s : Int) n h]
 rfl
theorem segLen_le (s : Int) : segLen s ≤ 16 := by
 unfold segLen firstS
 split <;> simp
 split <;> simp
theorem take_rows (s : Int) (n : Nat) : Rows_ 2 ((segR s).take n) := fun r hr => segR_rows s r (List.mem_of_mem_take hr)
theorem takR_rows (s : Int) : Rows_ 2 (takR s) := by
 unfold takR
 split
 ·exact fun _ h => nomatch h
 ·exact segR_rows s
theorem takR_nat (s : Nat) : takR (s : Int) = segR (s : Int) := if_neg (by omega)
theorem DoW (b : Nat) (X : Gm) (m : Hm) (s : Nat) (hs : s < 41) (y : Sm) (hy : X.sg[s]? = some y) (hok : WkOk s m.h y.s) (w : World) (hS : Sep w.heap.size (fps (wkR b X m s y)) w (wkR b X m s y)) :
  CallsV P 49 [ptr m.wb] w fun r w' => ∃ vt v, r = .bool (decide (m.h.line = 1) && y.s.done) ∧ Trans w w' (wkR b X m s y) (wkR b { X with sg := X.sg.set s (ySt s m y v) } (mSt s m y vt) s (ySt s m y v)) := by
 refine enterW Try.func49 rfl Try.ntmps49 rfl ?_
 have hw0 : St w w.heap.size (fps (wkR b X m s y)) (wkR b X m s y) w := St.startS hS
 obtain ⟨hln, hnx, hwn, htk, hbl, has, hone⟩ := hok
 have hsl : (segsA m.h.asks).length = m.h.asks.length := segsA_len _
 have hwt : (segsA m.h.asks).getD m.h.nx 0 = (s : Int) := by rw [segsA_get hnx]; exact hwn
 have hyv : y.v.oneCell' = true := own_one ((St.startS hS).ok (.tail _ (.tail _ (.tail _ (.tail _ (.head _))))))
 refine c_seq (c_region (l_assign rfl rfl rfl (l_nil (e_then ?_))))
 refine c_keep [0] (.cons rfl .nil) ?_
 refine c_seq ?_
 have hw1 := hw0.drewn
 try clear hw0
 obtain ⟨A1, c1, hv1⟩ := (hw1.io mem2).lies (by simp; omega)
 have hsg := segsA_rg m.h.asks
 refine c_any (n := 11) [false, false, false, false, false, false, false, false, false, false, false] (fun wS => (As.blk m.wb 99 (wkC b m)).ok wS ∧ IS wS .i64 m.vn (segsA m.h.asks)) (by kernel_rfl) rfl rfl ?_
 apply a_take (L' := [true, false, false, false, false, false, false, false, false, false, false]) 0 rfl (by kernel_rfl) (by kernel_rfl) (by kernel_rfl) rfl rfl rfl rfl rfl (⟨hw1.ok mem1, hw1.io mem2⟩)
 ·intro wS sS
  refine l_move rfl rfl rfl (l_nil ?_)
  exact e_got rfl
 refine a_nil (L' := [true, true, false, false, false, false, false, false, false, false, false]) 1 rfl (by kernel_rfl) (by kernel_rfl) (by kernel_rfl) rfl rfl rfl (⟨hw1.ok mem1, hw1.io mem2⟩) rfl ?_
 apply a_take (L' := [true, true, true, false, false, false, false, false, false, false, false]) 2 rfl (by kernel_rfl) (by kernel_rfl) (by kernel_rfl) rfl rfl rfl rfl rfl (⟨hw1.ok mem1, hw1.io mem2⟩)
 ·intro wS sS
  refine l_field fo99_1 rfl rfl rfl (l_nil ?_)
  exact e_got rfl
 apply a_take (L' := [true, true, true, true, false, false, false, false, false, false, false]) 3 rfl (by kernel_rfl) (by kernel_rfl) (by kernel_rfl) rfl rfl rfl rfl rfl (⟨hw1.ok mem1, hw1.io mem2⟩)
 ·intro wS sS
  refine l_load_blk (blk_st sS.1) mem0 rfl rfl Try.underlying23 rfl rfl rfl ?_
  refine l_nil ?_
  exact e_got rfl
 apply a_take (L' := [true, true, true, true, true, false, false, false, false, false, false]) 4 rfl (by kernel_rfl) (by kernel_rfl) (by kernel_rfl) rfl rfl rfl rfl rfl (⟨hw1.ok mem1, hw1.io mem2⟩)
 ·intro wS sS
  refine l_move rfl rfl rfl (l_nil ?_)
  exact e_got rfl
 refine a_nil (L' := [true, true, true, true, true, true, false, false, false, false, false]) 5 rfl (by kernel_rfl) (by kernel_rfl) (by kernel_rfl) rfl rfl rfl (⟨hw1.ok mem1, hw1.io mem2⟩) rfl ?_
 apply a_take (L' := [true, true, true, true, true, true, true, false, false, false, false]) 6 rfl (by kernel_rfl) (by kernel_rfl) (by kernel_rfl) rfl rfl rfl rfl rfl (⟨hw1.ok mem1, hw1.io mem2⟩)
 ·intro wS sS
  refine l_field fo99_2 rfl rfl rfl (l_nil ?_)
  exact e_got rfl
 apply a_take (L' := [true, true, true, true, true, true, true, true, false, false, false]) 7 rfl (by kernel_rfl) (by kernel_rfl) (by kernel_rfl) rfl rfl rfl rfl rfl (⟨hw1.ok mem1, hw1.io mem2⟩)
 ·intro wS sS
  refine l_load_blk (blk_st sS.1) mem0 rfl rfl Try.underlying3 rfl rfl rfl ?_
  refine l_nil ?_
  exact e_got rfl
 apply a_take (L' := [true, true, true, true, true, true, true, true, true, false, false]) 8 rfl (by kernel_rfl) (by kernel_rfl) (by kernel_rfl) rfl rfl rfl rfl rfl (⟨hw1.ok mem1, hw1.io mem2⟩)
 ·intro wS sS
  refine v_addrx (j := m.h.nx) rfl rfl Try.underlying23 tz3 rfl rfl hv1 (by first | rfl | omega) (by first | omega | (simp; done) | (simp; omega)) ?_
  refine l_nil ?_
  exact e_got rfl
 apply a_take (L' := [true, true, true, true, true, true, true, true, true, true, false]) 9 rfl (by kernel_rfl) (by kernel_rfl) (by kernel_rfl) rfl rfl rfl rfl rfl (⟨hw1.ok mem1, hw1.io mem2⟩)
 ·intro wS sS
  refine v_loadi rfl rfl Try.underlying3 rfl hv1 (by first | exact sS.2 | exact hw1.ibl mem0 | exact hw1.ibl mem1 | exact hw1.io mem2 | exact hw1.ik (by assumption) mem3 | exact hw1.ik (by assumption) mem4 | assumption) (by assumption) (by first | omega | (simp; done) | (simp; omega)) (fun hb1_9 => ?_)
  refine l_nil ?_
  exact e_got rfl
 apply a_take (L' := [true, true, true, true, true, true, true, true, true, true, true]) 10 rfl (by kernel_rfl) (by kernel_rfl) (by kernel_rfl) rfl rfl rfl rfl rfl (⟨hw1.ok mem1, hw1.io mem2⟩)
 ·intro wS sS
  refine l_assign rfl rfl rfl (l_nil ?_)
  exact e_got rfl
 refine a_done (by kernel_rfl) ?_
 refine e_then ?_
 refine c_keep [0, 3] (.cons rfl (.cons rfl .nil)) ?_
 refine c_seq (c_region ?_)
 refine l_turn (s := 3) (v' := .int .i64 (s : Int)) rfl (congrArg (Value.int .i64) hwt) ?_
 refine l_move rfl rfl rfl (l_nilCheck rfl rfl rfl (l_field fo99_0 rfl rfl rfl ?_))
 refine l_load_blk hw1 mem1 rfl rfl Try.underlying85 rfl rfl rfl ?_
 refine l_move rfl rfl rfl (l_nilCheck rfl rfl rfl (l_field fo64_0 rfl rfl rfl ?_))
 refine l_indexAo (j := s) (n := 3) rfl rfl Try.underlying62 tz61 rfl rfl rfl hs ?_
 refine l_assign rfl rfl rfl (l_nil (e_then ?_))
 refine c_keep [0, 3, 4] (.cons rfl (.cons rfl (.cons rfl .nil))) ?_
 refine c_seq (c_block (c_seq (c_region (l_move rfl rfl rfl (l_nilCheck rfl rfl rfl ?_)))))
 refine l_field fo99_3 rfl rfl rfl ?_
 refine l_load_blk hw1 mem1 rfl rfl Try.underlying3 rfl rfl rfl ?_
 refine l_eql rfl rfl rfl rfl ?_
 refine l_assign rfl rfl rfl (l_nil (e_then ?_))
 refine c_keep [0, 3, 4, 43] (.cons rfl (.cons rfl (.cons rfl (.cons rfl .nil)))) ?_
 first | refine c_cond rfl (fun hc0 => ?_) (fun hc0 => ?_) | refine c_condb rfl (fun hc0 => ?_) (fun hc0 => ?_)
 ·skip
  obtain ⟨htk, hl2⟩ := htk hc0
  have hsl16 := segLen_le (s : Int)
  have hel : (takR m.h.tk)[y.s.laid]? = some (wrow (entS ((firstS (s : Int)).1 + (y.s.laid : Int))).1) := by
   rw [htk, takR_nat]
   exact segR_at (s : Int) y.s.laid hl2
  have hell := (List.getElem?_eq_some_iff.1 hel).1
  have hl8 : ((segR (s : Int)).take y.s.laid).length = y.s.laid := by rw [List.length_take, segR_ln]; omega
  have hl9 : ((segR (s : Int)).take (y.s.laid + 1)).length = y.s.laid + 1 := by rw [List.length_take, segR_ln]; omega
  have hlt : (takR m.h.tk).length = segLen (s : Int) := by rw [htk, takR_nat, segR_ln]
  refine c_cutk (ι := Value) (fun (v8 : Value) (w' : World) => St w w.heap.size (fps (wkR b X m s y)) ([As.blk b 66 (gC { X with sg := X.sg.set s (⟨{ y.s with laid := y.s.laid + 1 }, v8⟩ : Sm) }), As.blk m.wb 99 (wkC b m), As.ri 3 .i64 m.vn (segsA m.h.asks), As.rk 77 2 m.vt (takR m.h.tk), srow s ⟨{ y.s with laid := y.s.laid + 1 }, v8⟩]) w' ∧ True) (fun (v8 : Value) => []) [0, 4] (.cons rfl (.cons rfl .nil)) ?_ ?_
  ·skip
   have hw2 := hw1.drewn
   try clear hw1
   obtain ⟨A8, c8, hA8⟩ : ∃ A c, m.vt = .slice (some A) (takR m.h.tk).length c := by
    obtain ⟨_, A, c, e, _, hs⟩ := Own.ik (takR_rows _) (hw2.ok mem3)
    obtain ⟨ad, rfl⟩ := hs.some_ (by rw [(takR_rows _).len]; omega)
    exact ⟨ad, c, e⟩
   refine c_any (n := 21) [false, false, false, false, false, false, false, false, false, false, false, false, false, false, false, false, false, false, false, false, false] (fun wS => (As.blk m.wb 99 (wkC b m)).ok wS ∧ IK wS 2 m.vt (takR m.h.tk)) (by kernel_rfl) rfl rfl ?_
   apply a_take (L' := [true, false, false, false, false, false, false, false, false, false, false, false, false, false, false, false, false, false, false, false, false]) 0 rfl (by kernel_rfl) (by kernel_rfl) (by kernel_rfl) rfl rfl rfl rfl rfl (⟨hw2.ok mem1, Own.ik (takR_rows _) (hw2.ok mem3)⟩)
   ·intro wS sS
    refine l_move rfl rfl rfl (l_nil ?_)
    exact e_got rfl
   apply a_take (L' := [true, true, false, false, false, false, false, false, false, false, false, false, false, false, false, false, false, false, false, false, false]) 1 rfl (by kernel_rfl) (by kernel_rfl) (by kernel_rfl) rfl rfl rfl rfl rfl (⟨hw2.ok mem1, Own.ik (takR_rows _) (hw2.ok mem3)⟩)
   ·intro wS sS
    refine l_move rfl rfl rfl (l_nil ?_)
    exact e_got rfl
   refine a_nil (L' := [true, true, true, false, false, false, false, false, false, false, false, false, false, false, false, false, false, false, false, false, false]) 2 rfl (by kernel_rfl) (by kernel_rfl) (by kernel_rfl) rfl rfl rfl (⟨hw2.ok mem1, Own.ik (takR_rows _) (hw2.ok mem3)⟩) rfl ?_
   apply a_take (L' := [true, true, true, true, false, false, false, false, false, false, false, false, false, false, false, false, false, false, false, false, false]) 3 rfl (by kernel_rfl) (by kernel_rfl) (by kernel_rfl) rfl rfl rfl rfl rfl (⟨hw2.ok mem1, Own.ik (takR_rows _) (hw2.ok mem3)⟩)
   ·intro wS sS
    refine l_field fo61_0 rfl rfl rfl (l_nil ?_)
    exact e_got rfl
   apply a_take (L' := [true, true, true, true, false, true, false, false, false, false, false, false, false, false, false, false, false, false, false, false, false]) 5 rfl (by kernel_rfl) (by kernel_rfl) (by kernel_rfl) rfl rfl rfl rfl rfl (⟨hw2.ok mem1, Own.ik (takR_rows _) (hw2.ok mem3)⟩)
   ·intro wS sS
    refine l_move rfl rfl rfl (l_nil ?_)
    exact e_got rfl
   refine a_nil (L' := [true, true, true, true, false, true, true, false, false, false, false, false, false, false, false, false, false, false, false, false, false]) 6 rfl (by kernel_rfl) (by kernel_rfl) (by kernel_rfl) rfl rfl rfl (⟨hw2.ok mem1, Own.ik (takR_rows _) (hw2.ok mem3)⟩) rfl ?_
   apply a_take (L' := [true, true, true, true, false, true, true, true, false, false, false, false, false, false, false, false, false, false, false, false, false]) 7 rfl (by kernel_rfl) (by kernel_rfl) (by kernel_rfl) rfl rfl rfl rfl rfl (⟨hw2.ok mem1, Own.ik (takR_rows _) (hw2.ok mem3)⟩)
   ·intro wS sS
    refine l_field fo99_4 rfl rfl rfl (l_nil ?_)
    exact e_got rfl
   apply a_take (L' := [true, true, true, true, false, true, true, true, true, false, false, false, false, false, false, false, false, false, false, false, false]) 8 rfl (by kernel_rfl) (by kernel_rfl) (by kernel_rfl) rfl rfl rfl rfl rfl (⟨hw2.ok mem1, Own.ik (takR_rows _) (hw2.ok mem3)⟩)
   ·intro wS sS
    refine l_load_blk (blk_st sS.1) mem0 rfl rfl Try.underlying34 rfl rfl rfl ?_
    refine l_nil ?_
    exact e_got rfl
   apply a_take (L' := [true, true, true, true, false, true, true, true, true, true, false, false, false, false, false, false, false, false, false, false, false]) 9 rfl (by kernel_rfl) (by kernel_rfl) (by kernel_rfl) rfl rfl rfl rfl rfl (⟨hw2.ok mem1, Own.ik (takR_rows _) (hw2.ok mem3)⟩)
   ·intro wS sS
    refine l_move rfl rfl rfl (l_nil ?_)
    exact e_got rfl
   refine a_nil (L' := [true, true, true, true, false, true, true, true, true, true, true, false, false, false, false, false, false, false, false, false, false]) 10 rfl (by kernel_rfl) (by kernel_rfl) (by kernel_rfl) rfl rfl rfl (⟨hw2.ok mem1, Own.ik (takR_rows _) (hw2.ok mem3)⟩) rfl ?_
   apply a_take (L' := [true, true, true, true, false, true, true, true, true, true, true, true, false, false, false, false, false, false, false, false, false]) 11 rfl (by kernel_rfl) (by kernel_rfl) (by kernel_rfl) rfl rfl rfl rfl rfl (⟨hw2.ok mem1, Own.ik (takR_rows _) (hw2.ok mem3)⟩)
   ·intro wS sS
    refine l_field fo61_0 rfl rfl rfl (l_nil ?_)
    exact e_got rfl
   refine a_two (L' := [true, true, true, true, true, true, true, true, true, true, true, true, false, false, false, false, false, false, false, false, false]) (L'' := [true, true, true, true, false, true, true, true, true, true, true, true, true, false, false, false, false, false, false, false, false]) 4 12 (by kernel_rfl) rfl rfl rfl rfl ?_ ?_
   ·skip
    refine l_load_blk hw2 mem0 rfl rfl Try.underlying34 rfl rfl (gC_at hy 0 (by omega)) ?_
    refine l_nil ?_
    refine e_any (⟨hw2.ok mem1, Own.ik (takR_rows _) (hw2.ok mem3)⟩) ?_
    refine a_one (L' := [true, true, true, true, true, true, true, true, true, true, true, true, true, false, false, false, false, false, false, false, false]) 12 (by kernel_rfl) rfl rfl ?_
    refine l_load_blk hw2 mem0 rfl rfl Try.underlying34 rfl rfl (gC_at hy 0 (by omega)) ?_
    refine l_nil ?_
    refine e_any (⟨hw2.ok mem1, Own.ik (takR_rows _) (hw2.ok mem3)⟩) ?_
    refine a_one (L' := [true, true, true, true, true, true, true, true, true, true, true, true, true, true, false, false, false, false, false, false, false]) 13 (by kernel_rfl) rfl rfl ?_
    refine k_len rfl rfl Try.underlying34 rfl (Own.ik (take_rows _ _) (hw2.ok mem4)) ?_
    refine l_nil ?_
    refine e_any (⟨hw2.ok mem1, Own.ik (takR_rows _) (hw2.ok mem3)⟩) ?_
    apply a_take (L' := [true, true, true, true, true, true, true, true, true, true, true, true, true, true, true, false, false, false, false, false, false]) 14 rfl (by kernel_rfl) (by kernel_rfl) (by kernel_rfl) rfl rfl rfl rfl rfl (⟨hw2.ok mem1, Own.ik (takR_rows _) (hw2.ok mem3)⟩)
    ·intro wS sS
     refine k_addrx (j := y.s.laid) rfl rfl Try.underlying34 tz77 (by decide) rfl rfl sS.2 hA8 (by rw [hl8]) hell ?_
     refine l_nil ?_
     exact e_got rfl
    apply a_take (L' := [true, true, true, true, true, true, true, true, true, true, true, true, true, true, true, true, false, false, false, false, false]) 15 rfl (by kernel_rfl) (by kernel_rfl) (by kernel_rfl) rfl rfl rfl rfl rfl (⟨hw2.ok mem1, Own.ik (takR_rows _) (hw2.ok mem3)⟩)
    ·intro wS sS
     refine k_load (j := y.s.laid) rfl rfl Try.underlying77 rfl tz77 rfl hA8 sS.2 hel ?_
     refine l_nil ?_
     exact e_got rfl
    refine a_one (L' := [true, true, true, true, true, true, true, true, true, true, true, true, true, true, true, true, true, false, false, false, false]) 16 (by kernel_rfl) rfl rfl ?_
    refine l_lit2 hw2 rfl rfl Try.underlying34 ti77 rfl rfl rfl (fun b8_16 w3 hw3 => ?_)
    refine l_nil ?_
    refine e_any (⟨hw3.ok mem2, Own.ik (takR_rows _) (hw3.ok mem4)⟩) ?_
    refine a_one (L' := [true, true, true, true, true, true, true, true, true, true, true, true, true, true, true, true, true, true, false, false, false]) 17 (by kernel_rfl) rfl rfl ?_
    have hw4 := St.frontL (l := [_, _, _, _, _]) hw3
    simp only [List.cons_append, List.nil_append] at hw4
    try clear hw3
    refine k_append1 (r := wrow (entS ((firstS (s : Int)).1 + (y.s.laid : Int))).1) hw4 rfl rfl Try.underlying34 ti77 rfl rfl rfl rfl (blk_sl (hw4.ok mem1)) (by simp [Value.oneCell']) (by rw [hl8]; omega) (by rw [hl8]; omega) (fun v8_17 w5 hw5 => ?_)
    refine l_nil ?_
    refine e_any (⟨hw5.ok mem3, Own.ik (takR_rows _) (hw5.ok mem5)⟩) ?_
    refine a_nil (L' := [true, true, true, true, true, true, true, true, true, true, true, true, true, true, true, true, true, true, true, false, false]) 18 rfl (by kernel_rfl) (by kernel_rfl) (by kernel_rfl) rfl rfl rfl (⟨hw5.ok mem3, Own.ik (takR_rows _) (hw5.ok mem5)⟩) rfl ?_
    apply a_take (L' := [true, true, true, true, true, true, true, true, true, true, true, true, true, true, true, true, true, true, true, true, false]) 19 rfl (by kernel_rfl) (by kernel_rfl) (by kernel_rfl) rfl rfl rfl rfl rfl (⟨hw5.ok mem3, Own.ik (takR_rows _) (hw5.ok mem5)⟩)
    ·intro wS sS
     refine l_field fo61_0 rfl rfl rfl (l_nil ?_)
     exact e_got rfl
    refine a_one (L' := [true, true, true, true, true, true, true, true, true, true, true, true, true, true, true, true, true, true, true, true, true]) 20 (by kernel_rfl) rfl rfl ?_
    have hw6 := St.frontL (l := [_, _]) hw5
    simp only [List.cons_append, List.nil_append] at hw6
    try clear hw5
    refine l_store_blk hw6 .head (gC_setAt (⟨{ y.s with laid := y.s.laid + 1 }, v8_17⟩) hy 0 (by omega) rfl) rfl tz34 rfl rfl (own_one (hw6.ok mem1)) (fun w7 hw7 => ?_)
    refine l_nil ?_
    refine e_any (⟨hw7.ok mem3, Own.ik (takR_rows _) (hw7.ok mem5)⟩) ?_
    refine a_done (by kernel_rfl) ?_
    have hw8 := St.frontL (l := [_]) hw7
    simp only [List.cons_append, List.nil_append] at hw8
    try clear hw7
    have hw9 := St.frontL (l := [_, _, _, _, _]) hw8
    simp only [List.cons_append, List.nil_append] at hw9
    try clear hw8
    have hw10 := St.frontL (l := [_, _, _, _, _]) hw9
    simp only [List.cons_append, List.nil_append] at hw10
    try clear hw9
    have hw11 := St.frontL (l := [_, _, _, _, _]) hw10
    simp only [List.cons_append, List.nil_append] at hw11
    try clear hw10
    have hw12 := St.frontL (l := [_, _, _, _]) hw11
    simp only [List.cons_append, List.nil_append] at hw12
    try clear hw11
    have hw13 := St.del (.tail (.tail (.tail (.tail (.tail .head))))) hw12
    try clear hw12
    refine e_meetk (v8_17) ?_ (.cons rfl (.cons rfl .nil)) ?_
    ·exact ⟨hw13.cast (by rw [take_one hl2]), trivial⟩
    ·exact .nil
   ·skip
    refine l_load_blk hw2 mem0 rfl rfl Try.underlying34 rfl rfl (gC_at hy 0 (by omega)) ?_
    refine l_nil ?_
    refine e_any (⟨hw2.ok mem1, Own.ik (takR_rows _) (hw2.ok mem3)⟩) ?_
    refine a_two (L' := [true, true, true, true, true, true, true, true, true, true, true, true, true, false, false, false, false, false, false, false, false]) (L'' := [true, true, true, true, false, true, true, true, true, true, true, true, true, true, false, false, false, false, false, false, false]) 4 13 (by kernel_rfl) rfl rfl rfl rfl ?_ ?_
    ·skip
     refine l_load_blk hw2 mem0 rfl rfl Try.underlying34 rfl rfl (gC_at hy 0 (by omega)) ?_
     refine l_nil ?_
     refine e_any (⟨hw2.ok mem1, Own.ik (takR_rows _) (hw2.ok mem3)⟩) ?_
     refine a_one (L' := [true, true, true, true, true, true, true, true, true, true, true, true, true, true, false, false, false, false, false, false, false]) 13 (by kernel_rfl) rfl rfl ?_
     refine k_len rfl rfl Try.underlying34 rfl (Own.ik (take_rows _ _) (hw2.ok mem4)) ?_
     refine l_nil ?_
     refine e_any (⟨hw2.ok mem1, Own.ik (takR_rows _) (hw2.ok mem3)⟩) ?_
     apply a_take (L' := [true, true, true, true, true, true, true, true, true, true, true, true, true, true, true, false, false, false, false, false, false]) 14 rfl (by kernel_rfl) (by kernel_rfl) (by kernel_rfl) rfl rfl rfl rfl rfl (⟨hw2.ok mem1, Own.ik (takR_rows _) (hw2.ok mem3)⟩)
     ·intro wS sS
      refine k_addrx (j := y.s.laid) rfl rfl Try.underlying34 tz77 (by decide) rfl rfl sS.2 hA8 (by rw [hl8]) hell ?_
      refine l_nil ?_
      exact e_got rfl
     apply a_take (L' := [true, true, true, true, true, true, true, true, true, true, true, true, true, true, true, true, false, false, false, false, false]) 15 rfl (by kernel_rfl) (by kernel_rfl) (by kernel_rfl) rfl rfl rfl rfl rfl (⟨hw2.ok mem1, Own.ik (takR_rows _) (hw2.ok mem3)⟩)
     ·intro wS sS
      refine k_load (j := y.s.laid) rfl rfl Try.underlying77 rfl tz77 rfl hA8 sS.2 hel ?_
      refine l_nil ?_
      exact e_got rfl
     refine a_one (L' := [true, true, true, true, true, true, true, true, true, true, true, true, true, true, true, true, true, false, false, false, false]) 16 (by kernel_rfl) rfl rfl ?_
     refine l_lit2 hw2 rfl rfl Try.underlying34 ti77 rfl rfl rfl (fun b8_16 w14 hw14 => ?_)
     refine l_nil ?_
     refine e_any (⟨hw14.ok mem2, Own.ik (takR_rows _) (hw14.ok mem4)⟩) ?_
     refine a_one (L' := [true, true, true, true, true, true, true, true, true, true, true, true, true, true, true, true, true, true, false, false, false]) 17 (by kernel_rfl) rfl rfl ?_
     have hw15 := St.frontL (l := [_, _, _, _, _]) hw14
     simp only [List.cons_append, List.nil_append] at hw15
     try clear hw14
     refine k_append1 (r := wrow (entS ((firstS (s : Int)).1 + (y.s.laid : Int))).1) hw15 rfl rfl Try.underlying34 ti77 rfl rfl rfl rfl (blk_sl (hw15.ok mem1)) (by simp [Value.oneCell']) (by rw [hl8]; omega) (by rw [hl8]; omega) (fun v8_17 w16 hw16 => ?_)
     refine l_nil ?_
     refine e_any (⟨hw16.ok mem3, Own.ik (takR_rows _) (hw16.ok mem5)⟩) ?_
     refine a_nil (L' := [true, true, true, true, true, true, true, true, true, true, true, true, true, true, true, true, true, true, true, false, false]) 18 rfl (by kernel_rfl) (by kernel_rfl) (by kernel_rfl) rfl rfl rfl (⟨hw16.ok mem3, Own.ik (takR_rows _) (hw16.ok mem5)⟩) rfl ?_
     apply a_take (L' := [true, true, true, true, true, true, true, true, true, true, true, true, true, true, true, true, true, true, true, true, false]) 19 rfl (by kernel_rfl) (by kernel_rfl) (by kernel_rfl) rfl rfl rfl rfl rfl (⟨hw16.ok mem3, Own.ik (takR_rows _) (hw16.ok mem5)⟩)
     ·intro wS sS
      refine l_field fo61_0 rfl rfl rfl (l_nil ?_)
      exact e_got rfl
     refine a_one (L' := [true, true, true, true, true, true, true, true, true, true, true, true, true, true, true, true, true, true, true, true, true]) 20 (by kernel_rfl) rfl rfl ?_
     have hw17 := St.frontL (l := [_, _]) hw16
     simp only [List.cons_append, List.nil_append] at hw17
     try clear hw16
     refine l_store_blk hw17 .head (gC_setAt (⟨{ y.s with laid := y.s.laid + 1 }, v8_17⟩) hy 0 (by omega) rfl) rfl tz34 rfl rfl (own_one (hw17.ok mem1)) (fun w18 hw18 => ?_)
     refine l_nil ?_
     refine e_any (⟨hw18.ok mem3, Own.ik (takR_rows _) (hw18.ok mem5)⟩) ?_
     refine a_done (by kernel_rfl) ?_
     have hw19 := St.frontL (l := [_]) hw18
     simp only [List.cons_append, List.nil_append] at hw19
     try clear hw18
     have hw20 := St.frontL (l := [_, _, _, _, _]) hw19
     simp only [List.cons_append, List.nil_append] at hw20
     try clear hw19
     have hw21 := St.frontL (l := [_, _, _, _, _]) hw20
     simp only [List.cons_append, List.nil_append] at hw21
     try clear hw20
     have hw22 := St.frontL (l := [_, _, _, _, _]) hw21
     simp only [List.cons_append, List.nil_append] at hw22
     try clear hw21
     have hw23 := St.frontL (l := [_, _, _, _]) hw22
     simp only [List.cons_append, List.nil_append] at hw23
     try clear hw22
     have hw24 := St.del (.tail (.tail (.tail (.tail (.tail .head))))) hw23
     try clear hw23
     refine e_meetk (v8_17) ?_ (.cons rfl (.cons rfl .nil)) ?_
     ·exact ⟨hw24.cast (by rw [take_one hl2]), trivial⟩
     ·exact .nil
    ·skip
     refine k_len rfl rfl Try.underlying34 rfl (Own.ik (take_rows _ _) (hw2.ok mem4)) ?_
     refine l_nil ?_
     refine e_any (⟨hw2.ok mem1, Own.ik (takR_rows _) (hw2.ok mem3)⟩) ?_
     apply a_take (L' := [true, true, true, true, false, true, true, true, true, true, true, true, true, true, true, false, false, false, false, false, false]) 14 rfl (by kernel_rfl) (by kernel_rfl) (by kernel_rfl) rfl rfl rfl rfl rfl (⟨hw2.ok mem1, Own.ik (takR_rows _) (hw2.ok mem3)⟩)
     ·intro wS sS
      refine k_addrx (j := y.s.laid) rfl rfl Try.underlying34 tz77 (by decide) rfl rfl sS.2 hA8 (by rw [hl8]) hell ?_
      refine l_nil ?_
      exact e_got rfl
     apply a_take (L' := [true, true, true, true, false, true, true, true, true, true, true, true, true, true, true, true, false, false, false, false, false]) 15 rfl (by kernel_rfl) (by kernel_rfl) (by kernel_rfl) rfl rfl rfl rfl rfl (⟨hw2.ok mem1, Own.ik (takR_rows _) (hw2.ok mem3)⟩)
     ·intro wS sS
      refine k_load (j := y.s.laid) rfl rfl Try.underlying77 rfl tz77 rfl hA8 sS.2 hel ?_
      refine l_nil ?_
      exact e_got rfl
     refine a_two (L' := [true, true, true, true, true, true, true, true, true, true, true, true, true, true, true, true, false, false, false, false, false]) (L'' := [true, true, true, true, false, true, true, true, true, true, true, true, true, true, true, true, true, false, false, false, false]) 4 16 (by kernel_rfl) rfl rfl rfl rfl ?_ ?_
     ·skip
      refine l_load_blk hw2 mem0 rfl rfl Try.underlying34 rfl rfl (gC_at hy 0 (by omega)) ?_
      refine l_nil ?_
      refine e_any (⟨hw2.ok mem1, Own.ik (takR_rows _) (hw2.ok mem3)⟩) ?_
      refine a_one (L' := [true, true, true, true, true, true, true, true, true, true, true, true, true, true, true, true, true, false, false, false, false]) 16 (by kernel_rfl) rfl rfl ?_
      refine l_lit2 hw2 rfl rfl Try.underlying34 ti77 rfl rfl rfl (fun b8_16 w25 hw25 => ?_)
      refine l_nil ?_
      refine e_any (⟨hw25.ok mem2, Own.ik (takR_rows _) (hw25.ok mem4)⟩) ?_
      refine a_one (L' := [true, true, true, true, true, true, true, true, true, true, true, true, true, true, true, true, true, true, false, false, false]) 17 (by kernel_rfl) rfl rfl ?_
      have hw26 := St.frontL (l := [_, _, _, _, _]) hw25
      simp only [List.cons_append, List.nil_append] at hw26
      try clear hw25
      refine k_append1 (r := wrow (entS ((firstS (s : Int)).1 + (y.s.laid : Int))).1) hw26 rfl rfl Try.underlying34 ti77 rfl rfl rfl rfl (blk_sl (hw26.ok mem1)) (by simp [Value.oneCell']) (by rw [hl8]; omega) (by rw [hl8]; omega) (fun v8_17 w27 hw27 => ?_)
      refine l_nil ?_
      refine e_any (⟨hw27.ok mem3, Own.ik (takR_rows _) (hw27.ok mem5)⟩) ?_
      refine a_nil (L' := [true, true, true, true, true, true, true, true, true, true, true, true, true, true, true, true, true, true, true, false, false]) 18 rfl (by kernel_rfl) (by kernel_rfl) (by kernel_rfl) rfl rfl rfl (⟨hw27.ok mem3, Own.ik (takR_rows _) (hw27.ok mem5)⟩) rfl ?_
      apply a_take (L' := [true, true, true, true, true, true, true, true, true, true, true, true, true, true, true, true, true, true, true, true, false]) 19 rfl (by kernel_rfl) (by kernel_rfl) (by kernel_rfl) rfl rfl rfl rfl rfl (⟨hw27.ok mem3, Own.ik (takR_rows _) (hw27.ok mem5)⟩)
      ·intro wS sS
       refine l_field fo61_0 rfl rfl rfl (l_nil ?_)
       exact e_got rfl
      refine a_one (L' := [true, true, true, true, true, true, true, true, true, true, true, true, true, true, true, true, true, true, true, true, true]) 20 (by kernel_rfl) rfl rfl ?_
      have hw28 := St.frontL (l := [_, _]) hw27
      simp only [List.cons_append, List.nil_append] at hw28
      try clear hw27
      refine l_store_blk hw28 .head (gC_setAt (⟨{ y.s with laid := y.s.laid + 1 }, v8_17⟩) hy 0 (by omega) rfl) rfl tz34 rfl rfl (own_one (hw28.ok mem1)) (fun w29 hw29 => ?_)
      refine l_nil ?_
      refine e_any (⟨hw29.ok mem3, Own.ik (takR_rows _) (hw29.ok mem5)⟩) ?_
      refine a_done (by kernel_rfl) ?_
      have hw30 := St.frontL (l := [_]) hw29
      simp only [List.cons_append, List.nil_append] at hw30
      try clear hw29
      have hw31 := St.frontL (l := [_, _, _, _, _]) hw30
      simp only [List.cons_append, List.nil_append] at hw31
      try clear hw30
      have hw32 := St.frontL (l := [_, _, _, _, _]) hw31
      simp only [List.cons_append, List.nil_append] at hw32
      try clear hw31
      have hw33 := St.frontL (l := [_, _, _, _, _]) hw32
      simp only [List.cons_append, List.nil_append] at hw33
      try clear hw32
      have hw34 := St.frontL (l := [_, _, _, _]) hw33
      simp only [List.cons_append, List.nil_append] at hw34
      try clear hw33
      have hw35 := St.del (.tail (.tail (.tail (.tail (.tail .head))))) hw34
      try clear hw34
      refine e_meetk (v8_17) ?_ (.cons rfl (.cons rfl .nil)) ?_
      ·exact ⟨hw35.cast (by rw [take_one hl2]), trivial⟩
      ·exact .nil
     ·skip
      refine l_lit2 hw2 rfl rfl Try.underlying34 ti77 rfl rfl rfl (fun b8_16 w36 hw36 => ?_)
      refine l_nil ?_
      refine e_any (⟨hw36.ok mem2, Own.ik (takR_rows _) (hw36.ok mem4)⟩) ?_
      refine a_one (L' := [true, true, true, true, true, true, true, true, true, true, true, true, true, true, true, true, true, false, false, false, false]) 4 (by kernel_rfl) rfl rfl ?_
      refine l_load_blk hw36 mem1 rfl rfl Try.underlying34 rfl rfl (gC_at hy 0 (by omega)) ?_
      refine l_nil ?_
      refine e_any (⟨hw36.ok mem2, Own.ik (takR_rows _) (hw36.ok mem4)⟩) ?_
      refine a_one (L' := [true, true, true, true, true, true, true, true, true, true, true, true, true, true, true, true, true, true, false, false, false]) 17 (by kernel_rfl) rfl rfl ?_
      have hw37 := St.frontL (l := [_, _, _, _, _]) hw36
      simp only [List.cons_append, List.nil_append] at hw37
      try clear hw36
      refine k_append1 (r := wrow (entS ((firstS (s : Int)).1 + (y.s.laid : Int))).1) hw37 rfl rfl Try.underlying34 ti77 rfl rfl rfl rfl (blk_sl (hw37.ok mem1)) (by simp [Value.oneCell']) (by rw [hl8]; omega) (by rw [hl8]; omega) (fun v8_17 w38 hw38 => ?_)
      refine l_nil ?_
      refine e_any (⟨hw38.ok mem3, Own.ik (takR_rows _) (hw38.ok mem5)⟩) ?_
      refine a_nil (L' := [true, true, true, true, true, true, true, true, true, true, true, true, true, true, true, true, true, true, true, false, false]) 18 rfl (by kernel_rfl) (by kernel_rfl) (by kernel_rfl) rfl rfl rfl (⟨hw38.ok mem3, Own.ik (takR_rows _) (hw38.ok mem5)⟩) rfl ?_
      apply a_take (L' := [true, true, true, true, true, true, true, true, true, true, true, true, true, true, true, true, true, true, true, true, false]) 19 rfl (by kernel_rfl) (by kernel_rfl) (by kernel_rfl) rfl rfl rfl rfl rfl (⟨hw38.ok mem3, Own.ik (takR_rows _) (hw38.ok mem5)⟩)
      ·intro wS sS
       refine l_field fo61_0 rfl rfl rfl (l_nil ?_)
       exact e_got rfl
      refine a_one (L' := [true, true, true, true, true, true, true, true, true, true, true, true, true, true, true, true, true, true, true, true, true]) 20 (by kernel_rfl) rfl rfl ?_
      have hw39 := St.frontL (l := [_, _]) hw38
      simp only [List.cons_append, List.nil_append] at hw39
      try clear hw38
      refine l_store_blk hw39 .head (gC_setAt (⟨{ y.s with laid := y.s.laid + 1 }, v8_17⟩) hy 0 (by omega) rfl) rfl tz34 rfl rfl (own_one (hw39.ok mem1)) (fun w40 hw40 => ?_)
      refine l_nil ?_
      refine e_any (⟨hw40.ok mem3, Own.ik (takR_rows _) (hw40.ok mem5)⟩) ?_
      refine a_done (by kernel_rfl) ?_
      have hw41 := St.frontL (l := [_]) hw40
      simp only [List.cons_append, List.nil_append] at hw41
      try clear hw40
      have hw42 := St.frontL (l := [_, _, _, _, _]) hw41
      simp only [List.cons_append, List.nil_append] at hw42
      try clear hw41
      have hw43 := St.frontL (l := [_, _, _, _, _]) hw42
      simp only [List.cons_append, List.nil_append] at hw43
      try clear hw42
      have hw44 := St.frontL (l := [_, _, _, _, _]) hw43
      simp only [List.cons_append, List.nil_append] at hw44
      try clear hw43
      have hw45 := St.frontL (l := [_, _, _, _]) hw44
      simp only [List.cons_append, List.nil_append] at hw45
      try clear hw44
      have hw46 := St.del (.tail (.tail (.tail (.tail (.tail .head))))) hw45
      try clear hw45
      refine e_meetk (v8_17) ?_ (.cons rfl (.cons rfl .nil)) ?_
      ·exact ⟨hw46.cast (by rw [take_one hl2]), trivial⟩
      ·exact .nil
  rintro v8 w47 ⟨hw47, _⟩
  refine c_seq ?_
  have hw48 := hw47.drewn
  try clear hw47
  refine c_any (n := 11) [false, false, false, false, false, false, false, false, false, false, false] (fun wS => (As.blk m.wb 99 (wkC b m)).ok wS ∧ (As.blk b 66 (gC { X with sg := X.sg.set s (⟨{ y.s with laid := y.s.laid + 1 }, v8⟩ : Sm) })).ok wS) (by kernel_rfl) rfl rfl ?_
  apply a_take (L' := [true, false, false, false, false, false, false, false, false, false, false]) 0 rfl (by kernel_rfl) (by kernel_rfl) (by kernel_rfl) rfl rfl rfl rfl rfl (⟨hw48.ok mem1, hw48.ok mem0⟩)
  ·intro wS sS
   refine l_move rfl rfl rfl (l_nil ?_)
   exact e_got rfl
  refine a_nil (L' := [true, true, false, false, false, false, false, false, false, false, false]) 1 rfl (by kernel_rfl) (by kernel_rfl) (by kernel_rfl) rfl rfl rfl (⟨hw48.ok mem1, hw48.ok mem0⟩) rfl ?_
  apply a_take (L' := [true, true, true, false, false, false, false, false, false, false, false]) 2 rfl (by kernel_rfl) (by kernel_rfl) (by kernel_rfl) rfl rfl rfl rfl rfl (⟨hw48.ok mem1, hw48.ok mem0⟩)
  ·intro wS sS
   refine l_field fo61_0 rfl rfl rfl (l_nil ?_)
   exact e_got rfl
  apply a_take (L' := [true, true, true, true, false, false, false, false, false, false, false]) 3 rfl (by kernel_rfl) (by kernel_rfl) (by kernel_rfl) rfl rfl rfl rfl rfl (⟨hw48.ok mem1, hw48.ok mem0⟩)
  ·intro wS sS
   refine l_load_blk (blk_st sS.2) mem0 rfl rfl Try.underlying34 rfl rfl (gC_at (set_at hy) 0 (by omega)) ?_
   refine l_nil ?_
   exact e_got rfl
  apply a_take (L' := [true, true, true, true, false, true, false, false, false, false, false]) 5 rfl (by kernel_rfl) (by kernel_rfl) (by kernel_rfl) rfl rfl rfl rfl rfl (⟨hw48.ok mem1, hw48.ok mem0⟩)
  ·intro wS sS
   refine l_move rfl rfl rfl (l_nil ?_)
   exact e_got rfl
  refine a_nil (L' := [true, true, true, true, false, true, true, false, false, false, false]) 6 rfl (by kernel_rfl) (by kernel_rfl) (by kernel_rfl) rfl rfl rfl (⟨hw48.ok mem1, hw48.ok mem0⟩) rfl ?_
  apply a_take (L' := [true, true, true, true, false, true, true, true, false, false, false]) 7 rfl (by kernel_rfl) (by kernel_rfl) (by kernel_rfl) rfl rfl rfl rfl rfl (⟨hw48.ok mem1, hw48.ok mem0⟩)
  ·intro wS sS
   refine l_field fo99_4 rfl rfl rfl (l_nil ?_)
   exact e_got rfl
  apply a_take (L' := [true, true, true, true, false, true, true, true, true, false, false]) 8 rfl (by kernel_rfl) (by kernel_rfl) (by kernel_rfl) rfl rfl rfl rfl rfl (⟨hw48.ok mem1, hw48.ok mem0⟩)
  ·intro wS sS
   refine l_load_blk (blk_st sS.1) mem0 rfl rfl Try.underlying34 rfl rfl rfl ?_
   refine l_nil ?_
   exact e_got rfl
  refine a_two (L' := [true, true, true, true, true, true, true, true, true, false, false]) (L'' := [true, true, true, true, false, true, true, true, true, true, false]) 4 9 (by kernel_rfl) rfl rfl rfl rfl ?_ ?_
  ·skip
   refine k_len rfl rfl Try.underlying34 rfl (Own.ik (take_rows _ _) (hw48.ok mem4)) ?_
   refine l_nil ?_
   refine e_any (⟨hw48.ok mem1, hw48.ok mem0⟩) ?_
   refine a_one (L' := [true, true, true, true, true, true, true, true, true, true, false]) 9 (by kernel_rfl) rfl rfl ?_
   refine k_len rfl rfl Try.underlying34 rfl (Own.ik (takR_rows _) (hw48.ok mem3)) ?_
   refine l_nil ?_
   refine e_any (⟨hw48.ok mem1, hw48.ok mem0⟩) ?_
   apply a_take (L' := [true, true, true, true, true, true, true, true, true, true, true]) 10 rfl (by kernel_rfl) (by kernel_rfl) (by kernel_rfl) rfl rfl rfl rfl rfl (⟨hw48.ok mem1, hw48.ok mem0⟩)
   ·intro wS sS
    refine l_eql rfl rfl rfl rfl ?_
    refine l_nil ?_
    exact e_got rfl
   refine a_done (by kernel_rfl) ?_
   refine e_then ?_
   refine c_keep [0, 79] (.cons rfl (.cons rfl .nil)) ?_
   first | refine c_cond rfl (fun hc1 => ?_) (fun hc1 => ?_) | refine c_condb rfl (fun hc1 => ?_) (fun hc1 => ?_)
   ·skip
    refine c_region (l_move rfl rfl rfl (l_nilCheck rfl rfl rfl (l_field fo99_3 rfl rfl rfl ?_)))
    refine l_store_blk hw48 (.tail .head) (by repeat (first | exact .zero | apply SetAt.succ)) rfl tz3 rfl rfl (by first | rfl | assumption) (fun w49 hw49 => ?_)
    try clear hw48
    refine l_nil ?_
    refine e_blk ?_
    refine e_then ?_
    refine c_keep [] .nil ?_
    refine c_seq (c_region (l_assign rfl rfl rfl (l_nil (e_then ?_))))
    refine c_ret ?_
    refine e_done1 Try.results49 rfl ?_
    refine ⟨_, rfl, ?_⟩
    have hw50 := St.front4 hw49
    try clear hw49
    have hw51 := St.front4 hw50
    try clear hw50
    have hw52 := St.front4 hw51
    try clear hw51
    have hw53 := St.front4 hw52
    try clear hw52
    have hw54 := St.front4 hw53
    try clear hw53
    have hres : stepH (s : Int) m.h y.s = ({ m.h with line := 3 }, { y.s with laid := y.s.laid + 1 }) := by
     unfold stepH
     rw [if_pos hc0, if_pos (by have h := hc1; dsimp only at h; rw [hl9, hlt] at h; omega)]
    refine ⟨m.vt, v8, ?_, ?_⟩
    ·exact congrArg Value.bool (by simp [hc0])
    ·show Trans _ _ _ (wkR b { X with sg := X.sg.set s ⟨(stepH (s : Int) m.h y.s).2, v8⟩ } { m with h := (stepH (s : Int) m.h y.s).1, vt := m.vt } s ⟨(stepH (s : Int) m.h y.s).2, v8⟩)
     rw [hres]
     exact St.transS hw54
   ·skip
    refine c_skip ?_
    refine e_blk ?_
    refine e_then ?_
    refine c_keep [] .nil ?_
    refine c_seq (c_region (l_assign rfl rfl rfl (l_nil (e_then ?_))))
    refine c_ret ?_
    refine e_done1 Try.results49 rfl ?_
    refine ⟨_, rfl, ?_⟩
    have hw55 := St.front4 hw48
    try clear hw48
    have hw56 := St.front4 hw55
    try clear hw55
    have hw57 := St.front4 hw56
    try clear hw56
    have hw58 := St.front4 hw57
    try clear hw57
    have hw59 := St.front4 hw58
    try clear hw58
    have hres : stepH (s : Int) m.h y.s = ({ m.h with line := 2 }, { y.s with laid := y.s.laid + 1 }) := by
     unfold stepH
     rw [if_pos hc0, if_neg (by have h := hc1; dsimp only at h; rw [hl9, hlt] at h; omega)]
    refine ⟨m.vt, v8, ?_, ?_⟩
    ·exact congrArg Value.bool (by simp [hc0])
    ·show Trans _ _ _ (wkR b { X with sg := X.sg.set s ⟨(stepH (s : Int) m.h y.s).2, v8⟩ } { m with h := (stepH (s : Int) m.h y.s).1, vt := m.vt } s ⟨(stepH (s : Int) m.h y.s).2, v8⟩)
     rw [hres, ← hc0]
     exact St.transS hw59
  ·skip
   refine k_len rfl rfl Try.underlying34 rfl (Own.ik (takR_rows _) (hw48.ok mem3)) ?_
   refine l_nil ?_
   refine e_any (⟨hw48.ok mem1, hw48.ok mem0⟩) ?_
   refine a_one (L' := [true, true, true, true, true, true, true, true, true, true, false]) 4 (by kernel_rfl) rfl rfl ?_
   refine k_len rfl rfl Try.underlying34 rfl (Own.ik (take_rows _ _) (hw48.ok mem4)) ?_
   refine l_nil ?_
   refine e_any (⟨hw48.ok mem1, hw48.ok mem0⟩) ?_
   apply a_take (L' := [true, true, true, true, true, true, true, true, true, true, true]) 10 rfl (by kernel_rfl) (by kernel_rfl) (by kernel_rfl) rfl rfl rfl rfl rfl (⟨hw48.ok mem1, hw48.ok mem0⟩)
   ·intro wS sS
    refine l_eql rfl rfl rfl rfl ?_
    refine l_nil ?_
    exact e_got rfl
   refine a_done (by kernel_rfl) ?_
   refine e_then ?_
   refine c_keep [0, 79] (.cons rfl (.cons rfl .nil)) ?_
   first | refine c_cond rfl (fun hc1 => ?_) (fun hc1 => ?_) | refine c_condb rfl (fun hc1 => ?_) (fun hc1 => ?_)
   ·skip
    refine c_region (l_move rfl rfl rfl (l_nilCheck rfl rfl rfl (l_field fo99_3 rfl rfl rfl ?_)))
    refine l_store_blk hw48 (.tail .head) (by repeat (first | exact .zero | apply SetAt.succ)) rfl tz3 rfl rfl (by first | rfl | assumption) (fun w60 hw60 => ?_)
    try clear hw48
    refine l_nil ?_
    refine e_blk ?_
    refine e_then ?_
    refine c_keep [] .nil ?_
    refine c_seq (c_region (l_assign rfl rfl rfl (l_nil (e_then ?_))))
    refine c_ret ?_
    refine e_done1 Try.results49 rfl ?_
    refine ⟨_, rfl, ?_⟩
    have hw61 := St.front4 hw60
    try clear hw60
    have hw62 := St.front4 hw61
    try clear hw61
    have hw63 := St.front4 hw62
    try clear hw62
    have hw64 := St.front4 hw63
    try clear hw63
    have hw65 := St.front4 hw64
    try clear hw64
    have hres : stepH (s : Int) m.h y.s = ({ m.h with line := 3 }, { y.s with laid := y.s.laid + 1 }) := by
     unfold stepH
     rw [if_pos hc0, if_pos (by have h := hc1; dsimp only at h; rw [hl9, hlt] at h; omega)]
    refine ⟨m.vt, v8, ?_, ?_⟩
    ·exact congrArg Value.bool (by simp [hc0])
    ·show Trans _ _ _ (wkR b { X with sg := X.sg.set s ⟨(stepH (s : Int) m.h y.s).2, v8⟩ } { m with h := (stepH (s : Int) m.h y.s).1, vt := m.vt } s ⟨(stepH (s : Int) m.h y.s).2, v8⟩)
     rw [hres]
     exact St.transS hw65
   ·skip
    refine c_skip ?_
    refine e_blk ?_
    refine e_then ?_
    refine c_keep [] .nil ?_
    refine c_seq (c_region (l_assign rfl rfl rfl (l_nil (e_then ?_))))
    refine c_ret ?_
    refine e_done1 Try.results49 rfl ?_
    refine ⟨_, rfl, ?_⟩
    have hw66 := St.front4 hw48
    try clear hw48
    have hw67 := St.front4 hw66
    try clear hw66
    have hw68 := St.front4 hw67
    try clear hw67
    have hw69 := St.front4 hw68
    try clear hw68
    have hw70 := St.front4 hw69
    try clear hw69
    have hres : stepH (s : Int) m.h y.s = ({ m.h with line := 2 }, { y.s with laid := y.s.laid + 1 }) := by
     unfold stepH
     rw [if_pos hc0, if_neg (by have h := hc1; dsimp only at h; rw [hl9, hlt] at h; omega)]
    refine ⟨m.vt, v8, ?_, ?_⟩
    ·exact congrArg Value.bool (by simp [hc0])
    ·show Trans _ _ _ (wkR b { X with sg := X.sg.set s ⟨(stepH (s : Int) m.h y.s).2, v8⟩ } { m with h := (stepH (s : Int) m.h y.s).1, vt := m.vt } s ⟨(stepH (s : Int) m.h y.s).2, v8⟩)
     rw [hres, ← hc0]
     exact St.transS hw70
 ·skip
  refine c_seq (c_region (l_move rfl rfl rfl (l_nilCheck rfl rfl rfl (l_field fo99_3 rfl rfl rfl ?_))))
  refine l_load_blk hw1 mem1 rfl rfl Try.underlying3 rfl rfl rfl ?_
  refine l_eql rfl rfl rfl rfl ?_
  refine l_assign rfl rfl rfl (l_nil (e_then ?_))
  refine c_keep [0, 3, 4, 83] (.cons rfl (.cons rfl (.cons rfl (.cons rfl .nil)))) ?_
  first | refine c_cond rfl (fun hc2 => ?_) (fun hc2 => ?_) | refine c_condb rfl (fun hc2 => ?_) (fun hc2 => ?_)
  ·skip
   refine c_seq (c_region (l_move rfl rfl rfl (l_nilCheck rfl rfl rfl (l_field fo61_2 rfl rfl rfl ?_))))
   refine l_store_blk hw1 .head (gC_setAt (⟨{ y.s with done := true }, y.v⟩) hy 2 (by omega) rfl) rfl tz4 rfl rfl rfl (fun w71 hw71 => ?_)
   refine l_nil (e_then ?_)
   refine c_keep [0] (.cons rfl .nil) ?_
   refine c_region (l_move rfl rfl rfl (l_nilCheck rfl rfl rfl (l_field fo99_3 rfl rfl rfl ?_)))
   refine l_store_blk hw71 (.tail .head) (by repeat (first | exact .zero | apply SetAt.succ)) rfl tz3 rfl rfl (by first | rfl | assumption) (fun w72 hw72 => ?_)
   try clear hw71
   refine l_nil ?_
   refine e_blk ?_
   refine e_then ?_
   refine c_keep [] .nil ?_
   refine c_seq (c_region (l_assign rfl rfl rfl (l_nil (e_then ?_))))
   refine c_ret ?_
   refine e_done1 Try.results49 rfl ?_
   refine ⟨_, rfl, ?_⟩
   have hw73 := St.front4 hw72
   try clear hw72
   have hw74 := St.front4 hw73
   try clear hw73
   have hw75 := St.front4 hw74
   try clear hw74
   have hw76 := St.front4 hw75
   try clear hw75
   have hw77 := St.front4 hw76
   try clear hw76
   have hres : stepH (s : Int) m.h y.s = ({ m.h with line := 1 }, { y.s with done := true }) := by
    unfold stepH
    rw [if_neg hc0, if_pos hc2]
   refine ⟨m.vt, y.v, ?_, ?_⟩
   ·exact congrArg Value.bool (by simp [hc2])
   ·show Trans _ _ _ (wkR b { X with sg := X.sg.set s ⟨(stepH (s : Int) m.h y.s).2, y.v⟩ } { m with h := (stepH (s : Int) m.h y.s).1, vt := m.vt } s ⟨(stepH (s : Int) m.h y.s).2, y.v⟩)
    rw [hres]
    exact St.transS hw77
  ·skip
   refine c_seq (c_region (l_move rfl rfl rfl (l_nilCheck rfl rfl rfl (l_field fo61_2 rfl rfl rfl ?_))))
   refine l_load_blk hw1 mem0 rfl rfl Try.underlying4 rfl rfl (gC_at hy 2 (by omega)) ?_
   first | refine l_notd rfl rfl rfl ?_ | refine l_not rfl rfl rfl ?_
   refine l_assign rfl rfl rfl (l_nil (e_then ?_))
   refine c_keep [0, 3, 4, 95] (.cons rfl (.cons rfl (.cons rfl (.cons rfl .nil)))) ?_
   first | refine c_cond rfl (fun hc3 => ?_) (fun hc3 => ?_) | refine c_condb rfl (fun hc3 => ?_) (fun hc3 => ?_)
   ·skip
    refine c_seq (c_region (l_move rfl rfl rfl (l_nilCheck rfl rfl rfl (l_field fo61_1 rfl rfl rfl ?_))))
    refine l_load_blk hw1 mem0 rfl rfl Try.underlying3 rfl rfl (gC_at hy 1 (by omega)) ?_
    refine l_add rfl rfl rfl rfl (w_i64 (by omega)) ?_
    refine l_nilCheck rfl rfl rfl (l_field fo61_1 rfl rfl rfl ?_)
    refine l_store_blk hw1 .head (gC_setAt (⟨{ y.s with built := y.s.built + 1 }, y.v⟩) hy 1 (by omega) rfl) rfl tz3 rfl rfl rfl (fun w78 hw78 => ?_)
    refine l_nil (e_then ?_)
    refine c_keep [0, 3] (.cons rfl (.cons rfl .nil)) ?_
    refine c_seq (c_region (l_move rfl rfl rfl (l_move rfl rfl rfl ?_)))
    refine l_call rfl rfl Try.func61 rfl rfl (.cons rfl .nil) (segP (s : Int) (by omega) w78) ?_
    rintro _ w79 ⟨vt2, rfl, hG⟩
    have hw79 := hG _ _ _ _ hw78
    try clear hG hw78
    simp only [List.cons_append, List.nil_append] at hw79
    refine l_move rfl rfl rfl (l_extract rfl rfl rfl rfl (l_extract rfl rfl rfl rfl (l_nilCheck rfl rfl rfl (l_field fo99_4 rfl rfl rfl ?_))))
    have hvt2 := own_one (hw79.ok mem0)
    refine l_store_blk hw79 (.tail (.tail .head)) (by repeat (first | exact .zero | apply SetAt.succ)) rfl tz34 rfl rfl (by first | rfl | assumption) (fun w80 hw80 => ?_)
    try clear hw79
    refine l_nil (e_then ?_)
    refine c_keep [0] (.cons rfl .nil) ?_
    refine c_region ?_
    have hw81 := St.del (.tail (.tail (.tail (.tail .head)))) hw80
    try clear hw80
    refine l_move rfl rfl rfl (l_nilCheck rfl rfl rfl (l_field fo99_3 rfl rfl rfl ?_))
    refine l_store_blk hw81 (.tail (.tail .head)) (by repeat (first | exact .zero | apply SetAt.succ)) rfl tz3 rfl rfl (by first | rfl | assumption) (fun w82 hw82 => ?_)
    try clear hw81
    refine l_nil ?_
    refine e_blk ?_
    refine e_then ?_
    refine c_keep [] .nil ?_
    refine c_seq (c_region (l_assign rfl rfl rfl (l_nil (e_then ?_))))
    refine c_ret ?_
    refine e_done1 Try.results49 rfl ?_
    refine ⟨_, rfl, ?_⟩
    have hw83 := St.front4 hw82
    try clear hw82
    have hw84 := St.front1 hw83
    try clear hw83
    have hw85 := St.front4 hw84
    try clear hw84
    have hw86 := St.front4 hw85
    try clear hw85
    have hw87 := St.front4 hw86
    try clear hw86
    have hres : stepH (s : Int) m.h y.s = ({ m.h with line := 2, tk := (s : Int) }, { y.s with built := y.s.built + 1 }) := by
     unfold stepH
     rw [if_neg hc0, if_neg hc2, if_pos (by simpa using hc3)]
    refine ⟨vt2, y.v, ?_, ?_⟩
    ·exact congrArg Value.bool (by simp at hc3; simp [hc3])
    ·show Trans _ _ _ (wkR b { X with sg := X.sg.set s ⟨(stepH (s : Int) m.h y.s).2, y.v⟩ } { m with h := (stepH (s : Int) m.h y.s).1, vt := vt2 } s ⟨(stepH (s : Int) m.h y.s).2, y.v⟩)
     rw [hres]
     exact St.transS (hw87.cast (by show _ = [_, _, _, As.rk _ 2 _ (takR (s : Int)), _]; rw [takR_nat]; rfl))
   ·skip
    refine c_seq (c_region (l_move rfl rfl rfl (l_nilCheck rfl rfl rfl (l_field fo99_2 rfl rfl rfl ?_))))
    refine l_load_blk hw1 mem1 rfl rfl Try.underlying3 rfl rfl rfl ?_
    refine l_add rfl rfl rfl rfl (w_i64 (by omega)) ?_
    refine l_nilCheck rfl rfl rfl (l_field fo99_2 rfl rfl rfl ?_)
    refine l_store_blk hw1 (.tail .head) (by repeat (first | exact .zero | apply SetAt.succ)) rfl tz3 rfl rfl (by first | rfl | assumption) (fun w88 hw88 => ?_)
    try clear hw1
    refine l_nil (e_then ?_)
    refine c_keep [0] (.cons rfl .nil) ?_
    refine c_seq (c_seq ?_)
    have hw89 := hw88.drewn
    try clear hw88
    refine c_any (n := 10) [false, false, false, false, false, false, false, false, false, false] (fun wS => ∃ cs, (As.blk m.wb 99 cs).ok wS ∧ cs[1]? = some m.vn ∧ cs[2]? = some (.int .i64 ((m.h.nx : Int) + 1))) (by kernel_rfl) rfl rfl ?_
    apply a_take (L' := [true, false, false, false, false, false, false, false, false, false]) 0 rfl (by kernel_rfl) (by kernel_rfl) (by kernel_rfl) rfl rfl rfl rfl rfl (⟨_, hw89.ok mem1, rfl, rfl⟩)
    ·intro wS sS
     refine l_move rfl rfl rfl (l_nil ?_)
     exact e_got rfl
    refine a_nil (L' := [true, true, false, false, false, false, false, false, false, false]) 1 rfl (by kernel_rfl) (by kernel_rfl) (by kernel_rfl) rfl rfl rfl (⟨_, hw89.ok mem1, rfl, rfl⟩) rfl ?_
    apply a_take (L' := [true, true, true, false, false, false, false, false, false, false]) 2 rfl (by kernel_rfl) (by kernel_rfl) (by kernel_rfl) rfl rfl rfl rfl rfl (⟨_, hw89.ok mem1, rfl, rfl⟩)
    ·intro wS sS
     refine l_field fo99_2 rfl rfl rfl (l_nil ?_)
     exact e_got rfl
    apply a_take (L' := [true, true, true, true, false, false, false, false, false, false]) 3 rfl (by kernel_rfl) (by kernel_rfl) (by kernel_rfl) rfl rfl rfl rfl rfl (⟨_, hw89.ok mem1, rfl, rfl⟩)
    ·intro wS sS
     obtain ⟨cs, hcs, hcs1, hcs2⟩ := sS
     refine l_load_blk (blk_st hcs) mem0 rfl rfl Try.underlying3 rfl rfl hcs2 ?_
     refine l_nil ?_
     exact e_got rfl
    apply a_take (L' := [true, true, true, true, true, false, false, false, false, false]) 4 rfl (by kernel_rfl) (by kernel_rfl) (by kernel_rfl) rfl rfl rfl rfl rfl (⟨_, hw89.ok mem1, rfl, rfl⟩)
    ·intro wS sS
     refine l_move rfl rfl rfl (l_nil ?_)
     exact e_got rfl
    refine a_nil (L' := [true, true, true, true, true, true, false, false, false, false]) 5 rfl (by kernel_rfl) (by kernel_rfl) (by kernel_rfl) rfl rfl rfl (⟨_, hw89.ok mem1, rfl, rfl⟩) rfl ?_
    apply a_take (L' := [true, true, true, true, true, true, true, false, false, false]) 6 rfl (by kernel_rfl) (by kernel_rfl) (by kernel_rfl) rfl rfl rfl rfl rfl (⟨_, hw89.ok mem1, rfl, rfl⟩)
    ·intro wS sS
     refine l_field fo99_1 rfl rfl rfl (l_nil ?_)
     exact e_got rfl
    apply a_take (L' := [true, true, true, true, true, true, true, true, false, false]) 7 rfl (by kernel_rfl) (by kernel_rfl) (by kernel_rfl) rfl rfl rfl rfl rfl (⟨_, hw89.ok mem1, rfl, rfl⟩)
    ·intro wS sS
     obtain ⟨cs, hcs, hcs1, hcs2⟩ := sS
     refine l_load_blk (blk_st hcs) mem0 rfl rfl Try.underlying23 rfl rfl hcs1 ?_
     refine l_nil ?_
     exact e_got rfl
    refine a_one (L' := [true, true, true, true, true, true, true, true, true, false]) 8 (by kernel_rfl) rfl rfl ?_
    refine v_leni rfl rfl Try.underlying23 rfl (by first | exact hw89.ibl mem0 | exact hw89.ibl mem1 | exact hw89.io mem2 | exact hw89.ik (by assumption) mem3 | exact hw89.ik (by assumption) mem4 | assumption) ?_
    refine l_nil ?_
    refine e_any (⟨_, hw89.ok mem1, rfl, rfl⟩) ?_
    apply a_take (L' := [true, true, true, true, true, true, true, true, true, true]) 9 rfl (by kernel_rfl) (by kernel_rfl) (by kernel_rfl) rfl rfl rfl rfl rfl (⟨_, hw89.ok mem1, rfl, rfl⟩)
    ·intro wS sS
     refine l_eql rfl rfl rfl rfl ?_
     refine l_nil ?_
     exact e_got rfl
    refine a_done (by kernel_rfl) ?_
    refine e_then ?_
    refine c_keep [0, 39] (.cons rfl (.cons rfl .nil)) ?_
    first | refine c_cond rfl (fun hc4 => ?_) (fun hc4 => ?_) | refine c_condb rfl (fun hc4 => ?_) (fun hc4 => ?_)
    ·skip
     refine c_region (l_move rfl rfl rfl (l_nilCheck rfl rfl rfl (l_field fo99_3 rfl rfl rfl ?_)))
     refine l_store_blk hw89 (.tail .head) (by repeat (first | exact .zero | apply SetAt.succ)) rfl tz3 rfl rfl (by first | rfl | assumption) (fun w90 hw90 => ?_)
     try clear hw89
     refine l_nil (e_then ?_)
     refine c_keep [] .nil ?_
     refine c_seq (c_region (l_assign rfl rfl rfl (l_nil (e_then ?_))))
     refine c_ret ?_
     refine e_blk_ret ?_
     refine e_then_ret ?_
     refine e_done1 Try.results49 rfl ?_
     refine ⟨_, rfl, ?_⟩
     have hw91 := St.front4 hw90
     try clear hw90
     have hw92 := St.front4 hw91
     try clear hw91
     have hw93 := St.front4 hw92
     try clear hw92
     have hw94 := St.front4 hw93
     try clear hw93
     have hw95 := St.front4 hw94
     try clear hw94
     have hres : stepH (s : Int) m.h y.s = ({ m.h with nx := m.h.nx + 1, line := 4 }, y.s) := by
      unfold stepH
      rw [if_neg hc0, if_neg hc2, if_neg (by simpa using hc3), if_pos (by omega)]
     refine ⟨m.vt, y.v, ?_, ?_⟩
     ·exact congrArg Value.bool (by simp at hc3; simp [hc3]; omega)
     ·show Trans _ _ _ (wkR b { X with sg := X.sg.set s ⟨(stepH (s : Int) m.h y.s).2, y.v⟩ } { m with h := (stepH (s : Int) m.h y.s).1, vt := m.vt } s ⟨(stepH (s : Int) m.h y.s).2, y.v⟩)
      rw [hres]
      exact St.transS (St.cast (σ' := wkR b { X with sg := X.sg.set s y } _ s y) hw95 (by rw [show X.sg.set s y = X.sg from set_id hy]; rfl))
    ·skip
     refine c_skip (e_then ?_)
     refine c_keep [] .nil ?_
     refine c_seq (c_region (l_assign rfl rfl rfl (l_nil (e_then ?_))))
     refine c_ret ?_
     refine e_blk_ret ?_
     refine e_then_ret ?_
     refine e_done1 Try.results49 rfl ?_
     refine ⟨_, rfl, ?_⟩
     have hw96 := St.front4 hw89
     try clear hw89
     have hw97 := St.front4 hw96
     try clear hw96
     have hw98 := St.front4 hw97
     try clear hw97
     have hw99 := St.front4 hw98
     try clear hw98
     have hw100 := St.front4 hw99
     try clear hw99
     have hres : stepH (s : Int) m.h y.s = ({ m.h with nx := m.h.nx + 1, line := 1 }, y.s) := by
      unfold stepH
      rw [if_neg hc0, if_neg hc2, if_neg (by simpa using hc3), if_neg (by omega)]
     refine ⟨m.vt, y.v, ?_, ?_⟩
     ·exact congrArg Value.bool (by simp at hc3; simp [hc3]; omega)
     ·show Trans _ _ _ (wkR b { X with sg := X.sg.set s ⟨(stepH (s : Int) m.h y.s).2, y.v⟩ } { m with h := (stepH (s : Int) m.h y.s).1, vt := m.vt } s ⟨(stepH (s : Int) m.h y.s).2, y.v⟩)
      rw [hres]
      exact St.transS (St.cast (σ' := wkR b { X with sg := X.sg.set s y } _ s y) hw100 (by rw [show X.sg.set s y = X.sg from set_id hy, show m.h.line = 1 by omega]; rfl))
theorem newW (b : Nat) (vn : Value) (l : List Int) (w : World) (hn : IV w vn (ints .i64 l)) :
  CallsV P 44 [.pointer (some ⟨b, 2, none⟩), vn] w fun r w' => ∃ wb, r = ptr wb ∧ Grow w w' [As.blk wb 99 [.pointer (some ⟨b, 2, none⟩), vn, .int .i64 0, .int .i64 (if l.length = 0 then 4 else 1), .slice none 0 0]] := by
 refine enterW Try.func44 rfl Try.ntmps44 rfl ?_
 have hw0 := St.start w
 have hvn : vn.oneCell' = true := by
  obtain ⟨A, c, rfl, _⟩ := hn
  rfl
 refine c_seq (c_region (l_assign rfl rfl rfl (l_nil (e_then ?_))))
 refine c_keep [0, 1] (.cons rfl (.cons rfl .nil)) ?_
 refine c_seq (c_region (l_move rfl rfl rfl (l_move rfl rfl rfl ?_)))
 refine l_buildS rfl rfl pl99 ta99 (.one rfl rfl (by first | rfl | assumption) .zero (.one rfl rfl (by first | rfl | assumption) (.succ .zero) (.one rfl rfl (by first | rfl | assumption) (.succ (.succ (.succ .zero))) .nil))) ?_
 refine l_box hw0 rfl rfl rfl (fun b1_3 w1 hw1 => ?_)
 try clear hw0
 refine l_assign rfl rfl rfl (l_nil (e_then ?_))
 refine c_keep [1, 5] (.cons rfl (.cons rfl .nil)) ?_
 refine c_seq (c_seq (c_region (l_move rfl rfl rfl ?_)))
 refine v_leni rfl rfl Try.underlying23 rfl (by first | exact hw1.ibl mem0 | exact hw1.iarg hn | assumption) ?_
 refine l_eql rfl rfl rfl rfl ?_
 refine l_nil (e_then ?_)
 refine c_keep [5, 12] (.cons rfl (.cons rfl .nil)) ?_
 first | refine c_cond rfl (fun hc0 => ?_) (fun hc0 => ?_) | refine c_condb rfl (fun hc0 => ?_) (fun hc0 => ?_)
 ·skip
  refine c_region (l_move rfl rfl rfl (l_nilCheck rfl rfl rfl (l_field fo99_3 rfl rfl rfl ?_)))
  refine l_store_blk hw1 .head (by repeat (first | exact .zero | apply SetAt.succ)) rfl tz3 rfl rfl (by first | rfl | assumption) (fun w2 hw2 => ?_)
  try clear hw1
  refine l_nil (e_then ?_)
  refine c_keep [5] (.cons rfl .nil) ?_
  refine c_seq (c_region (l_move rfl rfl rfl (l_assign rfl rfl rfl (l_nil (e_then ?_)))))
  refine c_keep [4] (.cons rfl .nil) ?_
  refine c_ret ?_
  refine e_done1 Try.results44 rfl ?_
  refine ⟨_, rfl, ?_⟩
  refine ⟨_, rfl, ?_⟩
  rw [if_pos (by omega)]
  exact hw2.grows
 ·skip
  refine c_skip (e_then ?_)
  refine c_keep [5] (.cons rfl .nil) ?_
  refine c_seq (c_region (l_move rfl rfl rfl (l_assign rfl rfl rfl (l_nil (e_then ?_)))))
  refine c_keep [4] (.cons rfl .nil) ?_
  refine c_ret ?_
  refine e_done1 Try.results44 rfl ?_
  refine ⟨_, rfl, ?_⟩
  refine ⟨_, rfl, ?_⟩
  rw [if_neg (by omega)]
  exact hw1.grows
abbrev newM (l : List Int) (bw bg bi bs bp wb : Nat) (vn vp : Value) : Hm := ⟨⟨l, if l.length = 0 then 4 else 1, 0, -1⟩, bw, bg, bi, bs, bp, wb, vn, vp, .slice none 0 0, .slice none 0 0⟩
theorem stepH_asks (s : Int) (h : Hd) (y : Sg) : (stepH s h y).1.asks = h.asks := by
 unfold stepH
 (repeat' split) <;> rfl
theorem handG (b i : Nat) (vn vp : Value) (l : List Int) (w : World) (hn : IV w vn (ints .i64 (segsA l))) (hp : vp.oneCell' = true) :
  CallsV P 31 [ptr b, .int .i64 (i : Int), vn, vp] w fun r w' => ∃ bw bg bi bs bp wb, r = .agg (handV (newM l bw bg bi bs bp wb vn vp)).toArray ∧ Grow w w' ((hrow b i (newM l bw bg bi bs bp wb vn vp)).take 6) := by
 refine enterW Try.func31 rfl Try.ntmps31 rfl ?_
 have hw0 := St.start w
 have hvn : vn.oneCell' = true := by
  obtain ⟨A, c, rfl, _⟩ := hn
  rfl
 refine c_seq (c_region ?_)
 refine l_box1 hw0 rfl rfl rfl (by first | rfl | assumption) (fun b0_0 w1 hw1 => ?_)
 try clear hw0
 refine l_box1 hw1 rfl rfl rfl (by first | rfl | assumption) (fun b0_1 w2 hw2 => ?_)
 try clear hw1
 refine l_box1 hw2 rfl rfl rfl (by first | rfl | assumption) (fun b0_2 w3 hw3 => ?_)
 try clear hw2
 refine l_box1 hw3 rfl rfl rfl (by first | rfl | assumption) (fun b0_3 w4 hw4 => ?_)
 try clear hw3
 refine l_alloc hw4 ta73 rfl rfl (fun b0_4 w5 hw5 => ?_)
 try clear hw4
 refine l_nil (e_then ?_)
 refine c_keep [4, 5, 6, 7, 8] (.cons rfl (.cons rfl (.cons rfl (.cons rfl (.cons rfl .nil))))) ?_
 refine c_seq ?_
 have hw6 := hw5.drewn
 try clear hw5
 refine c_any (n := 7) [false, false, false, false, false, false, false] (fun wS => (As.blk b0_0 25 [ptr b]).ok wS ∧ (As.blk b0_2 23 [vn]).ok wS) (by kernel_rfl) rfl rfl ?_
 apply a_take (L' := [true, false, false, false, false, false, false]) 0 rfl (by kernel_rfl) (by kernel_rfl) (by kernel_rfl) rfl rfl rfl rfl rfl (⟨hw6.ok mem4, hw6.ok mem2⟩)
 ·intro wS sS
  refine l_load_blk (blk_st sS.1) mem0 rfl rfl Try.underlying25 rfl rfl rfl ?_
  refine l_nil ?_
  exact e_got rfl
 refine a_nil (L' := [true, true, false, false, false, false, false]) 1 rfl (by kernel_rfl) (by kernel_rfl) (by kernel_rfl) rfl rfl rfl (⟨hw6.ok mem4, hw6.ok mem2⟩) rfl ?_
 apply a_take (L' := [true, true, true, false, false, false, false]) 2 rfl (by kernel_rfl) (by kernel_rfl) (by kernel_rfl) rfl rfl rfl rfl rfl (⟨hw6.ok mem4, hw6.ok mem2⟩)
 ·intro wS sS
  refine l_field fo66_1 rfl rfl rfl (l_nil ?_)
  exact e_got rfl
 apply a_take (L' := [true, true, true, true, false, false, false]) 3 rfl (by kernel_rfl) (by kernel_rfl) (by kernel_rfl) rfl rfl rfl rfl rfl (⟨hw6.ok mem4, hw6.ok mem2⟩)
 ·intro wS sS
  refine l_load_blk (blk_st sS.2) mem0 rfl rfl Try.underlying23 rfl rfl rfl ?_
  refine l_nil ?_
  exact e_got rfl
 refine a_two (L' := [true, true, true, true, true, false, false]) (L'' := [true, true, true, true, false, true, false]) 4 5 (by kernel_rfl) rfl rfl rfl rfl ?_ ?_
 ·skip
  refine l_call rfl rfl Try.func44 rfl rfl (.cons rfl (.cons rfl .nil)) (newW b vn (segsA l) w5.drew (hw6.iarg hn)) ?_
  rintro _ w7 ⟨wb, rfl, hG⟩
  have hw7 := hG _ _ _ _ hw6
  try clear hG hw6
  simp only [List.cons_append, List.nil_append] at hw7
  refine l_nil ?_
  refine e_any (⟨hw7.ok mem5, hw7.ok mem3⟩) ?_
  refine a_one (L' := [true, true, true, true, true, true, false]) 5 (by kernel_rfl) rfl rfl ?_
  refine l_alloc hw7 ta83 rfl rfl (fun b1_5 w8 hw8 => ?_)
  try clear hw7
  refine l_nil ?_
  refine e_any (⟨hw8.ok mem6, hw8.ok mem4⟩) ?_
  refine a_one (L' := [true, true, true, true, true, true, true]) 6 (by kernel_rfl) rfl rfl ?_
  refine l_store_blk hw8 .head (by repeat (first | exact .zero | apply SetAt.succ)) rfl tz83 rfl rfl (by first | rfl | assumption) (fun w9 hw9 => ?_)
  try clear hw8
  refine l_nil ?_
  refine e_any (⟨hw9.ok mem6, hw9.ok mem4⟩) ?_
  refine a_done (by kernel_rfl) ?_
  refine e_then ?_
  refine c_keep [4, 5, 6, 7, 8, 9] (.cons rfl (.cons rfl (.cons rfl (.cons rfl (.cons rfl (.cons rfl .nil)))))) ?_
  refine c_seq (c_region ?_)
  refine l_makeFunc rfl rfl (.cons rfl .nil) ?_
  refine l_makeFunc rfl rfl (.cons rfl (.cons rfl (.cons rfl (.cons rfl (.cons rfl .nil))))) ?_
  refine l_makeFunc rfl rfl (.cons rfl .nil) ?_
  refine l_buildS rfl rfl pl73 ta73 (.one rfl rfl (by first | rfl | assumption) .zero (.one rfl rfl (by first | rfl | assumption) (.succ .zero) (.one rfl rfl (by first | rfl | assumption) (.succ (.succ .zero)) .nil))) ?_
  refine l_store_blks hw9 (.tail (.tail .head)) (.zero (.zero (.zero .nil))) rfl tz73 rfl rfl (by first | (simp [Value.oneCell']; done) | (intro u hu; simp only [List.mem_cons, List.not_mem_nil, or_false] at hu; rcases hu with rfl | rfl | rfl <;> first | rfl | assumption)) (fun w10 hw10 => ?_)
  try clear hw9
  refine l_nil (e_then ?_)
  refine c_keep [8] (.cons rfl .nil) ?_
  refine c_ret ?_
  refine e_doneC Try.results31 (.cell rfl (load_agg_run hw10 mem2 Try.underlying73 rfl tz73 (.take (.take (.take .nil)))) .nil) ?_
  refine ⟨_, rfl, ?_⟩
  have hw11 := St.front2 hw10
  try clear hw10
  have hw12 := St.front2 hw11
  try clear hw11
  have hw13 := St.front3 hw12
  try clear hw12
  have hw14 := St.front4 hw13
  try clear hw13
  have hw15 := St.front5 hw14
  try clear hw14
  have hw16 := St.frontL (l := [_, _, _, _, _, _]) hw15
  simp only [List.cons_append, List.nil_append] at hw16
  try clear hw15
  have hw17 := St.frontL (l := [_, _, _, _, _, _]) hw16
  simp only [List.cons_append, List.nil_append] at hw17
  try clear hw16
  have hw18 := St.del (.tail (.tail (.tail (.tail (.tail (.tail .head)))))) hw17
  try clear hw17
  refine ⟨b1_5, b0_0, b0_1, b0_2, b0_3, wb, rfl, ?_⟩
  rw [show (segsA l).length = l.length from segsA_len l] at hw18
  exact hw18.grows
 ·skip
  refine l_alloc hw6 ta83 rfl rfl (fun b1_5 w19 hw19 => ?_)
  try clear hw6
  refine l_nil ?_
  refine e_any (⟨hw19.ok mem5, hw19.ok mem3⟩) ?_
  refine a_one (L' := [true, true, true, true, true, true, false]) 4 (by kernel_rfl) rfl rfl ?_
  refine l_call rfl rfl Try.func44 rfl rfl (.cons rfl (.cons rfl .nil)) (newW b vn (segsA l) w19 (hw19.iarg hn)) ?_
  rintro _ w20 ⟨wb, rfl, hG⟩
  have hw20 := hG _ _ _ _ hw19
  try clear hG hw19
  simp only [List.cons_append, List.nil_append] at hw20
  refine l_nil ?_
  refine e_any (⟨hw20.ok mem6, hw20.ok mem4⟩) ?_
  refine a_one (L' := [true, true, true, true, true, true, true]) 6 (by kernel_rfl) rfl rfl ?_
  refine l_store_blk hw20 (.tail .head) (by repeat (first | exact .zero | apply SetAt.succ)) rfl tz83 rfl rfl (by first | rfl | assumption) (fun w21 hw21 => ?_)
  try clear hw20
  refine l_nil ?_
  refine e_any (⟨hw21.ok mem6, hw21.ok mem4⟩) ?_
  refine a_done (by kernel_rfl) ?_
  refine e_then ?_
  refine c_keep [4, 5, 6, 7, 8, 9] (.cons rfl (.cons rfl (.cons rfl (.cons rfl (.cons rfl (.cons rfl .nil)))))) ?_
  refine c_seq (c_region ?_)
  refine l_makeFunc rfl rfl (.cons rfl .nil) ?_
  refine l_makeFunc rfl rfl (.cons rfl (.cons rfl (.cons rfl (.cons rfl (.cons rfl .nil))))) ?_
  refine l_makeFunc rfl rfl (.cons rfl .nil) ?_
  refine l_buildS rfl rfl pl73 ta73 (.one rfl rfl (by first | rfl | assumption) .zero (.one rfl rfl (by first | rfl | assumption) (.succ .zero) (.one rfl rfl (by first | rfl | assumption) (.succ (.succ .zero)) .nil))) ?_
  refine l_store_blks hw21 (.tail (.tail .head)) (.zero (.zero (.zero .nil))) rfl tz73 rfl rfl (by first | (simp [Value.oneCell']; done) | (intro u hu; simp only [List.mem_cons, List.not_mem_nil, or_false] at hu; rcases hu with rfl | rfl | rfl <;> first | rfl | assumption)) (fun w22 hw22 => ?_)
  try clear hw21
  refine l_nil (e_then ?_)
  refine c_keep [8] (.cons rfl .nil) ?_
  refine c_ret ?_
  refine e_doneC Try.results31 (.cell rfl (load_agg_run hw22 mem2 Try.underlying73 rfl tz73 (.take (.take (.take .nil)))) .nil) ?_
  refine ⟨_, rfl, ?_⟩
  have hw23 := St.front2 hw22
  try clear hw22
  have hw24 := St.front1 hw23
  try clear hw23
  have hw25 := St.front3 hw24
  try clear hw24
  have hw26 := St.front4 hw25
  try clear hw25
  have hw27 := St.front5 hw26
  try clear hw26
  have hw28 := St.frontL (l := [_, _, _, _, _, _]) hw27
  simp only [List.cons_append, List.nil_append] at hw28
  try clear hw27
  have hw29 := St.frontL (l := [_, _, _, _, _, _]) hw28
  simp only [List.cons_append, List.nil_append] at hw29
  try clear hw28
  have hw30 := St.del (.tail (.tail (.tail (.tail (.tail (.tail .head)))))) hw29
  try clear hw29
  refine ⟨b1_5, b0_0, b0_1, b0_2, b0_3, wb, rfl, ?_⟩
  rw [show (segsA l).length = l.length from segsA_len l] at hw30
  exact hw30.grows
theorem mayC (b : Nat) (X : Gm) (m : Hm) (s : Nat) (hs : s < 41) (y : Sm) (hy : X.sg[s]? = some y) (c : Int) (hyv : y.v.oneCell' = true) (hnx : m.h.line = 1 → m.h.nx < m.h.asks.length ∧ wantH m.h = (s : Int)) (w : World) (hb : (As.blk b 66 (gC X)).ok w) (hbw : (As.blk m.bw 83 [ptr m.wb]).ok w) (hk : (As.blk m.wb 99 (wkC b m)).ok w) (hn : IV w m.vn (ints .i64 (segsA m.h.asks))) :
  CallsV P 45 [.int .i64 c, ptr m.bw] w fun r w' => r = .bool (decide (c = 0 ∧ mayH m.h y.s = true)) ∧ Grow w w' [] := by
 refine enterW Try.func45 rfl Try.ntmps45 rfl ?_
 have hw0 := St.start w
 refine c_seq (c_region (l_assign rfl rfl rfl (l_nil (e_then ?_))))
 refine c_keep [0, 1] (.cons rfl (.cons rfl .nil)) ?_
 refine c_seq (c_region (l_move rfl rfl rfl ?_))
 refine l_eql rfl rfl rfl rfl ?_
 refine l_move rfl rfl rfl ?_
 apply l_andS hw0 2 [] rfl rfl (.cons rfl .nil) rfl rfl (fun _ => rfl) rfl rfl rfl
 ·intro hg1_3
  refine l_load_blk (blk_st (okarg hw0 hbw)) mem0 rfl rfl Try.underlying83 rfl rfl (rfl) ?_
  refine l_call rfl rfl Try.func46 rfl rfl (.cons rfl .nil) (MayW b X m s hs y hy hyv hnx w (okarg hw0 hb) (okarg hw0 hk) (hw0.iarg hn)) ?_
  rintro _ w1 ⟨rfl, hG⟩
  have hw1 := hG _ _ _ _ hw0
  try clear hG hw0
  simp only [List.cons_append, List.nil_append] at hw1
  refine l_turn (s := 8) (v' := .bool (decide (mayH m.h y.s = true))) rfl (by simp) ?_
  refine l_nil ?_
  exact e_staysS hw1 rfl (.cons rfl (congrArg Value.bool (decide_eq_true hg1_3).symm) .nil)
  all_goals infer_instance
 intro w2 hw2
 try clear hw0
 refine l_assign rfl rfl rfl (l_nil (e_then ?_))
 refine c_keep [3] (.cons rfl .nil) ?_
 refine c_ret ?_
 refine e_done1 Try.results45 rfl ?_
 refine ⟨_, rfl, ?_⟩
 exact ⟨rfl, hw2.grows⟩
theorem atC (b : Nat) (m : Hm) (hnx : (m.h.line = 2 ∨ m.h.line = 3) → m.h.nx < m.h.asks.length) (w : World) (hbw : (As.blk m.bw 83 [ptr m.wb]).ok w) (hk : (As.blk m.wb 99 (wkC b m)).ok w) (hn : IV w m.vn (ints .i64 (segsA m.h.asks))) :
  CallsV P 51 [ptr m.bw] w fun r w' => r = .agg #[.int .i64 m.h.line, .int .i64 (m.h.nx : Int), .int .i64 (if m.h.line = 2 ∨ m.h.line = 3 then wantH m.h else -1)] ∧ Grow w w' [] := by
 refine enterW Try.func51 rfl Try.ntmps51 rfl ?_
 have hw0 := St.start w
 refine c_seq (c_region ?_)
 refine l_alloc hw0 ta41 rfl rfl (fun b0_0 w1 hw1 => ?_)
 try clear hw0
 refine l_nil (e_then (c_seq ?_))
 have hw2 := hw1.drewn
 try clear hw1
 refine c_any (n := 8) [false, false, false, false, false, false, false, false] (fun wS => (As.blk m.bw 83 [ptr m.wb]).ok wS) (by kernel_rfl) rfl rfl ?_
 apply a_take (L' := [true, false, false, false, false, false, false, false]) 0 rfl (by kernel_rfl) (by kernel_rfl) (by kernel_rfl) rfl rfl rfl rfl rfl (okarg hw2 hbw)
 ·intro wS sS
  refine l_load_blk (blk_st sS) mem0 rfl rfl Try.underlying83 rfl rfl rfl ?_
  refine l_nil ?_
  exact e_got rfl
 apply a_take (L' := [true, false, true, false, false, false, false, false]) 2 rfl (by kernel_rfl) (by kernel_rfl) (by kernel_rfl) rfl rfl rfl rfl rfl (okarg hw2 hbw)
 ·intro wS sS
  refine l_load_blk (blk_st sS) mem0 rfl rfl Try.underlying83 rfl rfl rfl ?_
  refine l_nil ?_
  exact e_got rfl
 apply a_take (L' := [true, false, true, false, true, false, false, false]) 4 rfl (by kernel_rfl) (by kernel_rfl) (by kernel_rfl) rfl rfl rfl rfl rfl (okarg hw2 hbw)
 ·intro wS sS
  refine l_load_blk (blk_st sS) mem0 rfl rfl Try.underlying83 rfl rfl rfl ?_
  refine l_nil ?_
  exact e_got rfl
 refine a_one (L' := [true, true, true, false, true, false, false, false]) 1 (by kernel_rfl) rfl rfl ?_
 refine l_callp rfl rfl Try.func52 rfl rfl (.cons rfl .nil) (LineW b m w1.drew (okarg hw2 hk)) ?_
 refine l_nil ?_
 refine e_any (okarg hw2 hbw) ?_
 refine a_one (L' := [true, true, true, true, true, false, false, false]) 3 (by kernel_rfl) rfl rfl ?_
 refine l_callp rfl rfl Try.func48 rfl rfl (.cons rfl .nil) (NextW b m w1.drew (okarg hw2 hk)) ?_
 refine l_nil ?_
 refine e_any (okarg hw2 hbw) ?_
 refine a_one (L' := [true, true, true, true, true, true, false, false]) 5 (by kernel_rfl) rfl rfl ?_
 refine l_call rfl rfl Try.func53 rfl rfl (.cons rfl .nil) (SegmentW b m hnx w1.drew (okarg hw2 hk) (hw2.iarg hn)) ?_
 rintro _ w3 ⟨rfl, hG⟩
 have hw3 := hG _ _ _ _ hw2
 try clear hG hw2
 simp only [List.cons_append, List.nil_append] at hw3
 refine l_nil ?_
 refine e_any (okarg hw3 hbw) ?_
 refine a_one (L' := [true, true, true, true, true, true, true, false]) 6 (by kernel_rfl) rfl rfl ?_
 refine l_buildS rfl rfl pl41 ta41 (.one rfl rfl (by first | rfl | assumption) .zero (.one rfl rfl (by first | rfl | assumption) (.succ .zero) (.one rfl rfl (by first | rfl | assumption) (.succ (.succ .zero)) .nil))) ?_
 refine l_nil ?_
 refine e_any (okarg hw3 hbw) ?_
 refine a_one (L' := [true, true, true, true, true, true, true, true]) 7 (by kernel_rfl) rfl rfl ?_
 refine l_store_blks hw3 .head (.zero (.zero (.zero .nil))) rfl tz41 rfl rfl (by first | (simp [Value.oneCell']; done) | (intro u hu; simp only [List.mem_cons, List.not_mem_nil, or_false] at hu; rcases hu with rfl | rfl | rfl <;> first | rfl | assumption)) (fun w4 hw4 => ?_)
 try clear hw3
 refine l_nil ?_
 refine e_any (okarg hw4 hbw) ?_
 refine a_done (by kernel_rfl) ?_
 refine e_then ?_
 refine c_keep [1] (.cons rfl .nil) ?_
 refine c_ret ?_
 refine e_doneC Try.results51 (.cell rfl (load_agg_run hw4 mem0 Try.underlying41 rfl tz41 (.take (.take (.take .nil)))) .nil) ?_
 refine ⟨_, rfl, ?_⟩
 have hw5 := St.del .head hw4
 try clear hw4
 exact ⟨rfl, hw5.grows⟩
abbrev mDo (s : Nat) (m : Hm) (y : Sm) (vt vd : Value) : Hm := { m with h := (stepH (s : Int) m.h y.s).1, vt := vt, vd := vd }
abbrev XDo (X : Gm) (i : Nat) (m : Hm) (s : Nat) (y : Sm) : Gm := { X with hs := X.hs.set i m, sg := X.sg.set s y }
abbrev dW (b : Nat) (X : Gm) (i : Nat) (m : Hm) (s : Nat) (y : Sm) : List As :=
  [As.blk b 66 (gC X), As.ro 34 X.vr (X.hs.map (·.vd)), As.blk m.bw 83 [ptr m.wb], As.blk m.bg 25 [ptr b], As.blk m.bi 3 [.int .i64 (i : Int)], As.blk m.bs 23 [m.vn], As.blk m.bp 23 [m.vp], As.blk m.wb 99 (wkC b m),
   As.ri 3 .i64 m.vn (segsA m.h.asks), As.ri 3 .i64 m.vp (plcsA m.h.asks), As.rk 77 2 m.vt (takR m.h.tk), As.rk 77 2 m.vd (readA (m.h.asks.take m.h.nx)), srow s y]
theorem stepH_rd {s : Int} {h : Hd} {y : Sg} (hl : h.line = 1 ∨ h.line = 2 ∨ h.line = 3) (hr : (decide (h.line = 1) && y.done) = true) : stepH s h y = ({ h with nx := h.nx + 1, line := if h.nx + 1 = h.asks.length then 4 else 1 }, y) := by
 simp at hr
 unfold stepH
 rw [if_neg (by omega), if_neg (by omega), if_neg (by simp [hr.2])]
theorem stepH_nx {s : Int} {h : Hd} {y : Sg} (hl : h.line = 1 ∨ h.line = 2 ∨ h.line = 3) (hr : ¬ (decide (h.line = 1) && y.done) = true) : (stepH s h y).1.nx = h.nx := by
 simp at hr
 unfold stepH
 split
 ·rfl
 ·split
  ·rfl
  ·rw [if_pos (hr (by omega))]
theorem readA_succ {l : List Int} {n : Nat} (h : n < l.length) : readA (l.take (n + 1)) = readA (l.take n) ++ [wrow (entS (l.getD n 0)).1] := by
 rw [List.take_add_one, List.getElem?_eq_getElem h]
 simp only [readA, List.map_append, List.map_cons, List.map_nil, Option.toList_some, List.getD_eq_getElem?_getD, List.getElem?_eq_getElem h, Option.getD_some]
theorem readA_rows (l : List Int) : Rows_ 2 (readA l) := fun r hr => by
 obtain ⟨q, _, rfl⟩ := List.mem_map.1 hr
 exact ⟨rfl, by simp [Value.oneCell']⟩
theorem where_at {q : Int} (hq : -342 ≤ q ∧ q ≤ 308) : (firstS (whereS q).1).1 + (whereS q).2.1 = q ∧ (whereS q).2.1 < segLen (whereS q).1 := by
 have e : whereS q = ((q + 342) / 16, (q + 342) % 16, 0) := if_neg (by omega)
 rw [e]
 unfold segLen firstS
 dsimp only
 rw [if_neg (by omega)]
 dsimp only
 refine ⟨by omega, ?_⟩
 split <;> omega
theorem doC2 (b i : Nat) (X : Gm) (m : Hm) (s : Nat) (hs : s < 41) (y : Sm) (hy : X.sg[s]? = some y) (hm : X.hs[i]? = some m) (hX41 : X.sg.length = 41) (c : Int) (hok : WkOk s m.h y.s) (hq : ∀ q ∈ m.h.asks, -342 ≤ q ∧ q ≤ 308) (hdn : y.s.done = true → y.s.laid = segLen (s : Int)) (w : World) (hS : Sep w.heap.size (fps (dW b X i m s y)) w (dW b X i m s y)) :
  CallsV P 47 [.int .i64 c, ptr m.bw, ptr m.bg, ptr m.bi, ptr m.bs, ptr m.bp] w fun r w' => ∃ vt vd v, r = .tuple #[] ∧ Trans w w' (dW b X i m s y) (dW b (XDo X i (mDo s m y vt vd) s (ySt s m y v)) i (mDo s m y vt vd) s (ySt s m y v)) := by
 refine enterW Try.func47 rfl Try.ntmps47 rfl ?_
 have hw0 : St w w.heap.size (fps (dW b X i m s y)) (dW b X i m s y) w := St.startS hS
 have hvd : m.vd.oneCell' = true := own_one ((St.startS hS).ok mem11)
 have hal : m.h.asks.length ≤ 64 := hok.al
 have hnx := hok.nx
 have hkl := hok.line
 have hil := (List.getElem?_eq_some_iff.1 hm).1
 refine c_keep [1, 2, 3, 4, 5] (.cons rfl (.cons rfl (.cons rfl (.cons rfl (.cons rfl .nil))))) ?_
 refine c_seq (c_region ?_)
 refine l_load_blk hw0 mem2 rfl rfl Try.underlying83 rfl rfl rfl ?_
 refine l_callp rfl rfl Try.func48 rfl rfl (.cons rfl .nil) (NextW b m w (hw0.ok mem7)) ?_
 refine l_assign rfl rfl rfl (l_nil (e_then ?_))
 refine c_keep [1, 2, 3, 4, 5, 7] (.cons rfl (.cons rfl (.cons rfl (.cons rfl (.cons rfl (.cons rfl .nil)))))) ?_
 refine c_seq (c_region ?_)
 refine l_load_blk hw0 mem2 rfl rfl Try.underlying83 rfl rfl rfl ?_
 have hw1 := St.frontL (l := [_, _, _, _, _, _, _, _, _, _, _, _]) hw0
 simp only [List.cons_append, List.nil_append] at hw1
 try clear hw0
 have hw2 := St.frontL (l := [_, _, _, _, _, _, _, _, _, _, _]) hw1
 simp only [List.cons_append, List.nil_append] at hw2
 try clear hw1
 have hw3 := St.frontL (l := [_, _, _, _, _, _, _, _, _, _]) hw2
 simp only [List.cons_append, List.nil_append] at hw3
 try clear hw2
 have hw4 := St.frontL (l := [_, _, _, _, _, _, _, _, _, _]) hw3
 simp only [List.cons_append, List.nil_append] at hw4
 try clear hw3
 have hw5 := St.frontL (l := [_, _, _, _]) hw4
 simp only [List.cons_append, List.nil_append] at hw5
 try clear hw4
 refine l_call rfl rfl Try.func49 rfl rfl (.cons rfl .nil) (DoW b X m s hs y hy hok w (St.rows (τ := wkR b X m s y) hw5)) ?_
 rintro _ w6 ⟨vt, v, rfl, hX2⟩
 have hw6 := hX2 _ _ _ _ hw5
 simp only [wkR, List.cons_append, List.nil_append] at hw6
 rw [show (mSt s m y vt).h.asks = m.h.asks from stepH_asks _ _ _] at hw6
 try clear hX hw5
 refine l_nil (e_then ?_)
 refine c_keep [2, 3, 4, 5, 7, 11] (.cons rfl (.cons rfl (.cons rfl (.cons rfl (.cons rfl (.cons rfl .nil)))))) ?_
 first | refine c_cond rfl (fun hc0 => ?_) (fun hc0 => ?_) | refine c_condb rfl (fun hc0 => ?_) (fun hc0 => ?_)
 ·skip
  have hw7 := hw6.drewn
  try clear hw6
  have hres := stepH_rd (s := (s : Int)) hkl hc0
  have hys : (ySt s m y v).s.laid = y.s.laid := by
   show (stepH (s : Int) m.h y.s).2.laid = _
   rw [hres]
  have hdone : y.s.done = true := by simp at hc0; exact hc0.2
  have hvl : (X.hs.map (·.vd)).length = X.hs.length := List.length_map _
  have hln : (segsA m.h.asks).length = m.h.asks.length := segsA_len _
  have hlp : (plcsA m.h.asks).length = m.h.asks.length := plcsA_len _
  obtain ⟨Ar, cr, hvr2⟩ := (hw7.io mem5).lies (by omega)
  obtain ⟨An, cn, hvn2⟩ := (hw7.io mem2).lies (by simp; omega)
  obtain ⟨Ap, cp, hvp2⟩ := (hw7.io mem11).lies (by simp; omega)
  have hsg := segsA_rg m.h.asks
  have hpg := plcsA_rg m.h.asks
  have hqm : m.h.asks.getD m.h.nx 0 ∈ m.h.asks := by simp [List.getD, hnx]
  have hwa := where_at (hq _ hqm)
  have hws : (whereS (m.h.asks.getD m.h.nx 0)).1 = (s : Int) := hok.want
  have hwb := where_bd (m.h.asks.getD m.h.nx 0)
  rw [hws] at hwa
  refine c_any (n := 28) [false, false, false, false, false, false, false, false, false, false, false, false, false, false, false, false, false, false, false, false, false, false, false, false, false, false, false, false] (fun wS => (As.blk m.bg 25 [ptr b]).ok wS ∧ (As.blk m.bi 3 [.int .i64 (i : Int)]).ok wS ∧ (As.blk m.bs 23 [m.vn]).ok wS ∧ (As.blk m.bp 23 [m.vp]).ok wS ∧ (As.blk b 66 (gC ({ X with sg := X.sg.set s (ySt s m y v) } : Gm))).ok wS ∧ IS wS .i64 m.vn (segsA m.h.asks) ∧ IS wS .i64 m.vp (plcsA m.h.asks)) (by kernel_rfl) rfl rfl ?_
  apply a_take (L' := [true, false, false, false, false, false, false, false, false, false, false, false, false, false, false, false, false, false, false, false, false, false, false, false, false, false, false, false]) 0 rfl (by kernel_rfl) (by kernel_rfl) (by kernel_rfl) rfl rfl rfl rfl rfl (⟨hw7.ok mem7, hw7.ok mem8, hw7.ok mem9, hw7.ok mem10, hw7.ok mem0, hw7.io mem2, hw7.io mem11⟩)
  ·intro wS sS
   refine l_load_blk (blk_st sS.1) mem0 rfl rfl Try.underlying25 rfl rfl rfl ?_
   refine l_nil ?_
   exact e_got rfl
  refine a_nil (L' := [true, true, false, false, false, false, false, false, false, false, false, false, false, false, false, false, false, false, false, false, false, false, false, false, false, false, false, false]) 1 rfl (by kernel_rfl) (by kernel_rfl) (by kernel_rfl) rfl rfl rfl (⟨hw7.ok mem7, hw7.ok mem8, hw7.ok mem9, hw7.ok mem10, hw7.ok mem0, hw7.io mem2, hw7.io mem11⟩) rfl ?_
  apply a_take (L' := [true, true, true, false, false, false, false, false, false, false, false, false, false, false, false, false, false, false, false, false, false, false, false, false, false, false, false, false]) 2 rfl (by kernel_rfl) (by kernel_rfl) (by kernel_rfl) rfl rfl rfl rfl rfl (⟨hw7.ok mem7, hw7.ok mem8, hw7.ok mem9, hw7.ok mem10, hw7.ok mem0, hw7.io mem2, hw7.io mem11⟩)
  ·intro wS sS
   refine l_field fo66_2 rfl rfl rfl (l_nil ?_)
   exact e_got rfl
  apply a_take (L' := [true, true, true, true, false, false, false, false, false, false, false, false, false, false, false, false, false, false, false, false, false, false, false, false, false, false, false, false]) 3 rfl (by kernel_rfl) (by kernel_rfl) (by kernel_rfl) rfl rfl rfl rfl rfl (⟨hw7.ok mem7, hw7.ok mem8, hw7.ok mem9, hw7.ok mem10, hw7.ok mem0, hw7.io mem2, hw7.io mem11⟩)
  ·intro wS sS
   refine l_load_blk (blk_st sS.2.2.2.2.1) mem0 rfl rfl Try.underlying56 rfl rfl (gC_vr (by simpa using hX41)) ?_
   refine l_nil ?_
   exact e_got rfl
  apply a_take (L' := [true, true, true, true, true, false, false, false, false, false, false, false, false, false, false, false, false, false, false, false, false, false, false, false, false, false, false, false]) 4 rfl (by kernel_rfl) (by kernel_rfl) (by kernel_rfl) rfl rfl rfl rfl rfl (⟨hw7.ok mem7, hw7.ok mem8, hw7.ok mem9, hw7.ok mem10, hw7.ok mem0, hw7.io mem2, hw7.io mem11⟩)
  ·intro wS sS
   refine l_load_blk (blk_st sS.2.1) mem0 rfl rfl Try.underlying3 rfl rfl rfl ?_
   refine l_nil ?_
   exact e_got rfl
  apply a_take (L' := [true, true, true, true, true, true, false, false, false, false, false, false, false, false, false, false, false, false, false, false, false, false, false, false, false, false, false, false]) 5 rfl (by kernel_rfl) (by kernel_rfl) (by kernel_rfl) rfl rfl rfl rfl rfl (⟨hw7.ok mem7, hw7.ok mem8, hw7.ok mem9, hw7.ok mem10, hw7.ok mem0, hw7.io mem2, hw7.io mem11⟩)
  ·intro wS sS
   refine l_load_blk (blk_st sS.1) mem0 rfl rfl Try.underlying25 rfl rfl rfl ?_
   refine l_nil ?_
   exact e_got rfl
  refine a_nil (L' := [true, true, true, true, true, true, true, false, false, false, false, false, false, false, false, false, false, false, false, false, false, false, false, false, false, false, false, false]) 6 rfl (by kernel_rfl) (by kernel_rfl) (by kernel_rfl) rfl rfl rfl (⟨hw7.ok mem7, hw7.ok mem8, hw7.ok mem9, hw7.ok mem10, hw7.ok mem0, hw7.io mem2, hw7.io mem11⟩) rfl ?_
  apply a_take (L' := [true, true, true, true, true, true, true, true, false, false, false, false, false, false, false, false, false, false, false, false, false, false, false, false, false, false, false, false]) 7 rfl (by kernel_rfl) (by kernel_rfl) (by kernel_rfl) rfl rfl rfl rfl rfl (⟨hw7.ok mem7, hw7.ok mem8, hw7.ok mem9, hw7.ok mem10, hw7.ok mem0, hw7.io mem2, hw7.io mem11⟩)
  ·intro wS sS
   refine l_field fo66_2 rfl rfl rfl (l_nil ?_)
   exact e_got rfl
  apply a_take (L' := [true, true, true, true, true, true, true, true, true, false, false, false, false, false, false, false, false, false, false, false, false, false, false, false, false, false, false, false]) 8 rfl (by kernel_rfl) (by kernel_rfl) (by kernel_rfl) rfl rfl rfl rfl rfl (⟨hw7.ok mem7, hw7.ok mem8, hw7.ok mem9, hw7.ok mem10, hw7.ok mem0, hw7.io mem2, hw7.io mem11⟩)
  ·intro wS sS
   refine l_load_blk (blk_st sS.2.2.2.2.1) mem0 rfl rfl Try.underlying56 rfl rfl (gC_vr (by simpa using hX41)) ?_
   refine l_nil ?_
   exact e_got rfl
  apply a_take (L' := [true, true, true, true, true, true, true, true, true, true, false, false, false, false, false, false, false, false, false, false, false, false, false, false, false, false, false, false]) 9 rfl (by kernel_rfl) (by kernel_rfl) (by kernel_rfl) rfl rfl rfl rfl rfl (⟨hw7.ok mem7, hw7.ok mem8, hw7.ok mem9, hw7.ok mem10, hw7.ok mem0, hw7.io mem2, hw7.io mem11⟩)
  ·intro wS sS
   refine l_load_blk (blk_st sS.2.1) mem0 rfl rfl Try.underlying3 rfl rfl rfl ?_
   refine l_nil ?_
   exact e_got rfl
  apply a_take (L' := [true, true, true, true, true, true, true, true, true, true, true, false, false, false, false, false, false, false, false, false, false, false, false, false, false, false, false, false]) 10 rfl (by kernel_rfl) (by kernel_rfl) (by kernel_rfl) rfl rfl rfl rfl rfl (⟨hw7.ok mem7, hw7.ok mem8, hw7.ok mem9, hw7.ok mem10, hw7.ok mem0, hw7.io mem2, hw7.io mem11⟩)
  ·intro wS sS
   refine v_addrx (j := i) rfl rfl Try.underlying56 tz34 rfl rfl hvr2 (by first | rfl | omega) (by first | omega | (simp; done) | (simp; omega)) ?_
   refine l_nil ?_
   exact e_got rfl
  apply a_take (L' := [true, true, true, true, true, true, true, true, true, true, true, false, true, false, false, false, false, false, false, false, false, false, false, false, false, false, false, false]) 12 rfl (by kernel_rfl) (by kernel_rfl) (by kernel_rfl) rfl rfl rfl rfl rfl (⟨hw7.ok mem7, hw7.ok mem8, hw7.ok mem9, hw7.ok mem10, hw7.ok mem0, hw7.io mem2, hw7.io mem11⟩)
  ·intro wS sS
   refine l_load_blk (blk_st sS.1) mem0 rfl rfl Try.underlying25 rfl rfl rfl ?_
   refine l_nil ?_
   exact e_got rfl
  refine a_nil (L' := [true, true, true, true, true, true, true, true, true, true, true, false, true, true, false, false, false, false, false, false, false, false, false, false, false, false, false, false]) 13 rfl (by kernel_rfl) (by kernel_rfl) (by kernel_rfl) rfl rfl rfl (⟨hw7.ok mem7, hw7.ok mem8, hw7.ok mem9, hw7.ok mem10, hw7.ok mem0, hw7.io mem2, hw7.io mem11⟩) rfl ?_
  apply a_take (L' := [true, true, true, true, true, true, true, true, true, true, true, false, true, true, true, false, false, false, false, false, false, false, false, false, false, false, false, false]) 14 rfl (by kernel_rfl) (by kernel_rfl) (by kernel_rfl) rfl rfl rfl rfl rfl (⟨hw7.ok mem7, hw7.ok mem8, hw7.ok mem9, hw7.ok mem10, hw7.ok mem0, hw7.io mem2, hw7.io mem11⟩)
  ·intro wS sS
   refine l_field fo66_1 rfl rfl rfl (l_nil ?_)
   exact e_got rfl
  apply a_take (L' := [true, true, true, true, true, true, true, true, true, true, true, false, true, true, true, true, false, false, false, false, false, false, false, false, false, false, false, false]) 15 rfl (by kernel_rfl) (by kernel_rfl) (by kernel_rfl) rfl rfl rfl rfl rfl (⟨hw7.ok mem7, hw7.ok mem8, hw7.ok mem9, hw7.ok mem10, hw7.ok mem0, hw7.io mem2, hw7.io mem11⟩)
  ·intro wS sS
   refine l_load_blk (blk_st sS.2.2.1) mem0 rfl rfl Try.underlying23 rfl rfl rfl ?_
   refine l_nil ?_
   exact e_got rfl
  apply a_take (L' := [true, true, true, true, true, true, true, true, true, true, true, false, true, true, true, true, true, false, false, false, false, false, false, false, false, false, false, false]) 16 rfl (by kernel_rfl) (by kernel_rfl) (by kernel_rfl) rfl rfl rfl rfl rfl (⟨hw7.ok mem7, hw7.ok mem8, hw7.ok mem9, hw7.ok mem10, hw7.ok mem0, hw7.io mem2, hw7.io mem11⟩)
  ·intro wS sS
   refine l_move rfl rfl rfl (l_nil ?_)
   exact e_got rfl
  apply a_take (L' := [true, true, true, true, true, true, true, true, true, true, true, false, true, true, true, true, true, true, false, false, false, false, false, false, false, false, false, false]) 17 rfl (by kernel_rfl) (by kernel_rfl) (by kernel_rfl) rfl rfl rfl rfl rfl (⟨hw7.ok mem7, hw7.ok mem8, hw7.ok mem9, hw7.ok mem10, hw7.ok mem0, hw7.io mem2, hw7.io mem11⟩)
  ·intro wS sS
   refine v_addrx (j := m.h.nx) rfl rfl Try.underlying23 tz3 rfl rfl hvn2 (by first | rfl | omega) (by first | omega | (simp; done) | (simp; omega)) ?_
   refine l_nil ?_
   exact e_got rfl
  apply a_take (L' := [true, true, true, true, true, true, true, true, true, true, true, false, true, true, true, true, true, true, true, false, false, false, false, false, false, false, false, false]) 18 rfl (by kernel_rfl) (by kernel_rfl) (by kernel_rfl) rfl rfl rfl rfl rfl (⟨hw7.ok mem7, hw7.ok mem8, hw7.ok mem9, hw7.ok mem10, hw7.ok mem0, hw7.io mem2, hw7.io mem11⟩)
  ·intro wS sS
   refine v_loadi rfl rfl Try.underlying3 rfl hvn2 (by first | exact sS.2.2.2.2.2.1 | exact sS.2.2.2.2.2.2 | exact hw7.ibl mem0 | exact hw7.ibl mem1 | exact hw7.io mem2 | exact hw7.ik (by assumption) mem3 | exact hw7.ik (by assumption) mem4 | exact hw7.io mem5 | exact hw7.ibl mem6 | exact hw7.ibl mem7 | exact hw7.ibl mem8 | exact hw7.ibl mem9 | exact hw7.ibl mem10 | exact hw7.io mem11 | exact hw7.ik (by assumption) mem12 | assumption) (by assumption) (by first | omega | (simp; done) | (simp; omega)) (fun hb2_18 => ?_)
   refine l_nil ?_
   exact e_got rfl
  apply a_take (L' := [true, true, true, true, true, true, true, true, true, true, true, false, true, true, true, true, true, true, true, true, false, false, false, false, false, false, false, false]) 19 rfl (by kernel_rfl) (by kernel_rfl) (by kernel_rfl) rfl rfl rfl rfl rfl (⟨hw7.ok mem7, hw7.ok mem8, hw7.ok mem9, hw7.ok mem10, hw7.ok mem0, hw7.io mem2, hw7.io mem11⟩)
  ·intro wS sS
   refine l_load_blk (blk_st sS.2.2.2.1) mem0 rfl rfl Try.underlying23 rfl rfl rfl ?_
   refine l_nil ?_
   exact e_got rfl
  apply a_take (L' := [true, true, true, true, true, true, true, true, true, true, true, false, true, true, true, true, true, true, true, true, true, false, false, false, false, false, false, false]) 20 rfl (by kernel_rfl) (by kernel_rfl) (by kernel_rfl) rfl rfl rfl rfl rfl (⟨hw7.ok mem7, hw7.ok mem8, hw7.ok mem9, hw7.ok mem10, hw7.ok mem0, hw7.io mem2, hw7.io mem11⟩)
  ·intro wS sS
   refine l_move rfl rfl rfl (l_nil ?_)
   exact e_got rfl
  apply a_take (L' := [true, true, true, true, true, true, true, true, true, true, true, false, true, true, true, true, true, true, true, true, true, true, false, false, false, false, false, false]) 21 rfl (by kernel_rfl) (by kernel_rfl) (by kernel_rfl) rfl rfl rfl rfl rfl (⟨hw7.ok mem7, hw7.ok mem8, hw7.ok mem9, hw7.ok mem10, hw7.ok mem0, hw7.io mem2, hw7.io mem11⟩)
  ·intro wS sS
   refine v_addrx (j := m.h.nx) rfl rfl Try.underlying23 tz3 rfl rfl hvp2 (by first | rfl | omega) (by first | omega | (simp; done) | (simp; omega)) ?_
   refine l_nil ?_
   exact e_got rfl
  apply a_take (L' := [true, true, true, true, true, true, true, true, true, true, true, false, true, true, true, true, true, true, true, true, true, true, true, false, false, false, false, false]) 22 rfl (by kernel_rfl) (by kernel_rfl) (by kernel_rfl) rfl rfl rfl rfl rfl (⟨hw7.ok mem7, hw7.ok mem8, hw7.ok mem9, hw7.ok mem10, hw7.ok mem0, hw7.io mem2, hw7.io mem11⟩)
  ·intro wS sS
   refine v_loadi rfl rfl Try.underlying3 rfl hvp2 (by first | exact sS.2.2.2.2.2.1 | exact sS.2.2.2.2.2.2 | exact hw7.ibl mem0 | exact hw7.ibl mem1 | exact hw7.io mem2 | exact hw7.ik (by assumption) mem3 | exact hw7.ik (by assumption) mem4 | exact hw7.io mem5 | exact hw7.ibl mem6 | exact hw7.ibl mem7 | exact hw7.ibl mem8 | exact hw7.ibl mem9 | exact hw7.ibl mem10 | exact hw7.io mem11 | exact hw7.ik (by assumption) mem12 | assumption) (by assumption) (by first | omega | (simp; done) | (simp; omega)) (fun hb2_22 => ?_)
   refine l_nil ?_
   exact e_got rfl
  refine a_two (L' := [true, true, true, true, true, true, true, true, true, true, true, true, true, true, true, true, true, true, true, true, true, true, true, false, false, false, false, false]) (L'' := [true, true, true, true, true, true, true, true, true, true, true, false, true, true, true, true, true, true, true, true, true, true, true, true, false, false, false, false]) 11 23 (by kernel_rfl) rfl rfl rfl rfl ?_ ?_
  ·skip
   refine l_load rfl rfl Try.underlying34 rfl rfl (sl_of hvr2 (hw7.io mem5)) (show (X.hs.map (·.vd))[i]? = some m.vd by rw [List.getElem?_map, hm]; rfl) ?_
   refine l_nil ?_
   refine e_any (⟨hw7.ok mem7, hw7.ok mem8, hw7.ok mem9, hw7.ok mem10, hw7.ok mem0, hw7.io mem2, hw7.io mem11⟩) ?_
   refine a_one (L' := [true, true, true, true, true, true, true, true, true, true, true, true, true, true, true, true, true, true, true, true, true, true, true, true, false, false, false, false]) 23 (by kernel_rfl) rfl rfl ?_
   refine l_turn (s := 30) (v' := .int .i64 (s : Int)) rfl (congrArg (Value.int .i64) (by rw [segsA_get hnx]; exact hws)) ?_
   refine l_turn (s := 34) (v' := .int .i64 (((whereS (m.h.asks.getD m.h.nx 0)).2.1.toNat : Nat) : Int)) rfl (congrArg (Value.int .i64) (by rw [plcsA_get hnx]; omega)) ?_
   refine l_call rfl rfl Try.func50 rfl rfl (.cons rfl (.cons rfl (.cons rfl .nil))) (RowT b ({ X with sg := X.sg.set s (ySt s m y v) }) (by simpa using hX41) s ((whereS (m.h.asks.getD m.h.nx 0)).2.1.toNat) hs (ySt s m y v) (set_at hy) (by rw [hys]; have := hdn hdone; omega) (by rw [hys]; have := hdn hdone; omega) w6.drew (hw7.ok mem0) (Own.ik (take_rows _ _) (hw7.ok mem4))) ?_
   rintro _ w8 ⟨rfl, hG⟩
   have hw8 := hG _ _ _ _ hw7
   try clear hG hw7
   simp only [List.cons_append, List.nil_append] at hw8
   refine l_turn (s := 35) (v' := wideV (entS (m.h.asks.getD m.h.nx 0)).1) rfl (by rw [Int.toNat_of_nonneg hwb.2.1, hwa.1]) ?_
   refine l_nil ?_
   refine e_any (⟨hw8.ok mem7, hw8.ok mem8, hw8.ok mem9, hw8.ok mem10, hw8.ok mem0, hw8.io mem2, hw8.io mem11⟩) ?_
   refine a_one (L' := [true, true, true, true, true, true, true, true, true, true, true, true, true, true, true, true, true, true, true, true, true, true, true, true, true, false, false, false]) 24 (by kernel_rfl) rfl rfl ?_
   refine l_lit2 hw8 rfl rfl Try.underlying34 ti77 rfl rfl rfl (fun b2_24 w9 hw9 => ?_)
   refine l_nil ?_
   refine e_any (⟨hw9.ok mem8, hw9.ok mem9, hw9.ok mem10, hw9.ok mem11, hw9.ok mem1, hw9.io mem3, hw9.io mem12⟩) ?_
   refine a_one (L' := [true, true, true, true, true, true, true, true, true, true, true, true, true, true, true, true, true, true, true, true, true, true, true, true, true, true, false, false]) 25 (by kernel_rfl) rfl rfl ?_
   have hw10 := St.frontL (l := [_, _, _, _, _, _, _, _, _, _, _, _, _]) hw9
   simp only [List.cons_append, List.nil_append] at hw10
   try clear hw9
   refine k_append1 (r := wrow (entS (m.h.asks.getD m.h.nx 0)).1) hw10 rfl rfl Try.underlying34 ti77 rfl rfl rfl rfl (blk_sl (hw10.ok mem1)) (by simp [Value.oneCell']) (by simp [readA]; omega) (by simp [readA]; omega) (fun v2_25 w11 hw11 => ?_)
   refine l_nil ?_
   refine e_any (⟨hw11.ok mem9, hw11.ok mem10, hw11.ok mem11, hw11.ok mem12, hw11.ok mem2, hw11.io mem4, hw11.io mem13⟩) ?_
   apply a_take (L' := [true, true, true, true, true, true, true, true, true, true, true, true, true, true, true, true, true, true, true, true, true, true, true, true, true, true, true, false]) 26 rfl (by kernel_rfl) (by kernel_rfl) (by kernel_rfl) rfl rfl rfl rfl rfl (⟨hw11.ok mem9, hw11.ok mem10, hw11.ok mem11, hw11.ok mem12, hw11.ok mem2, hw11.io mem4, hw11.io mem13⟩)
   ·intro wS sS
    refine v_addrx (j := i) rfl rfl Try.underlying56 tz34 rfl rfl hvr2 (by first | rfl | omega) (by first | omega | (simp; done) | (simp; omega)) ?_
    refine l_nil ?_
    exact e_got rfl
   refine a_one (L' := [true, true, true, true, true, true, true, true, true, true, true, true, true, true, true, true, true, true, true, true, true, true, true, true, true, true, true, true]) 27 (by kernel_rfl) rfl rfl ?_
   have hw12 := St.frontL (l := [_, _, _, _, _, _, _]) hw11
   simp only [List.cons_append, List.nil_append] at hw12
   try clear hw11
   refine v_store (j := i) hw12 .head hvr2 rfl tz34 rfl rfl (by omega) (own_one (hw12.ok mem1)) (fun w13 hw13 => ?_)
   refine l_nil ?_
   refine e_any (⟨hw13.ok mem9, hw13.ok mem10, hw13.ok mem11, hw13.ok mem12, hw13.ok mem3, hw13.io mem5, hw13.io mem13⟩) ?_
   refine a_done (by kernel_rfl) ?_
   try dsimp only
   refine e_done0 Try.results47 ?_
   refine ⟨_, rfl, ?_⟩
   have hw14 := St.frontL (l := [_, _, _, _, _, _, _]) hw13
   simp only [List.cons_append, List.nil_append] at hw14
   try clear hw13
   have hw15 := St.front2 hw14
   try clear hw14
   have hw16 := St.frontL (l := [_, _, _, _, _, _, _]) hw15
   simp only [List.cons_append, List.nil_append] at hw16
   try clear hw15
   have hw17 := St.frontL (l := [_, _, _, _, _, _, _, _, _, _, _, _, _]) hw16
   simp only [List.cons_append, List.nil_append] at hw17
   try clear hw16
   have hw18 := St.frontL (l := [_, _, _, _, _, _, _, _]) hw17
   simp only [List.cons_append, List.nil_append] at hw18
   try clear hw17
   have hw19 := St.frontL (l := [_, _, _, _, _, _, _, _]) hw18
   simp only [List.cons_append, List.nil_append] at hw19
   try clear hw18
   have hw20 := St.frontL (l := [_, _, _, _, _, _, _, _, _, _, _, _, _]) hw19
   simp only [List.cons_append, List.nil_append] at hw20
   try clear hw19
   have hw21 := St.frontL (l := [_, _, _, _, _, _, _, _, _, _, _, _, _]) hw20
   simp only [List.cons_append, List.nil_append] at hw21
   try clear hw20
   have hw22 := St.frontL (l := [_, _, _, _, _, _, _, _, _, _, _, _, _]) hw21
   simp only [List.cons_append, List.nil_append] at hw22
   try clear hw21
   have hw23 := St.frontL (l := [_, _, _, _, _, _, _, _, _, _, _, _, _]) hw22
   simp only [List.cons_append, List.nil_append] at hw23
   try clear hw22
   have hw24 := St.frontL (l := [_, _, _, _, _, _, _, _, _, _, _, _, _]) hw23
   simp only [List.cons_append, List.nil_append] at hw24
   try clear hw23
   have hw25 := St.frontL (l := [_, _, _, _, _, _, _, _, _, _, _]) hw24
   simp only [List.cons_append, List.nil_append] at hw25
   try clear hw24
   have hw26 := St.frontL (l := [_, _, _, _, _, _, _, _, _, _, _, _, _]) hw25
   simp only [List.cons_append, List.nil_append] at hw26
   try clear hw25
   have hw27 := St.del (.tail (.tail (.tail (.tail (.tail (.tail (.tail (.tail (.tail (.tail (.tail (.tail (.tail .head))))))))))))) hw26
   try clear hw26
   refine ⟨vt, v2_25, v, rfl, St.transS (hw27.cast ?_)⟩
   show _ = [_, As.ro _ _ ((X.hs.set i _).map _), _, _, _, _, _, _, As.ri _ _ _ (segsA (stepH (s : Int) m.h y.s).1.asks), As.ri _ _ _ (plcsA (stepH (s : Int) m.h y.s).1.asks), _, As.rk _ 2 _ (readA ((stepH (s : Int) m.h y.s).1.asks.take (stepH (s : Int) m.h y.s).1.nx)), _]
   rw [List.map_set, stepH_asks, show (stepH (s : Int) m.h y.s).1.nx = m.h.nx + 1 from by rw [hres], readA_succ hnx]
   rfl
  ·skip
   refine l_turn (s := 30) (v' := .int .i64 (s : Int)) rfl (congrArg (Value.int .i64) (by rw [segsA_get hnx]; exact hws)) ?_
   refine l_turn (s := 34) (v' := .int .i64 (((whereS (m.h.asks.getD m.h.nx 0)).2.1.toNat : Nat) : Int)) rfl (congrArg (Value.int .i64) (by rw [plcsA_get hnx]; omega)) ?_
   refine l_call rfl rfl Try.func50 rfl rfl (.cons rfl (.cons rfl (.cons rfl .nil))) (RowT b ({ X with sg := X.sg.set s (ySt s m y v) }) (by simpa using hX41) s ((whereS (m.h.asks.getD m.h.nx 0)).2.1.toNat) hs (ySt s m y v) (set_at hy) (by rw [hys]; have := hdn hdone; omega) (by rw [hys]; have := hdn hdone; omega) w6.drew (hw7.ok mem0) (Own.ik (take_rows _ _) (hw7.ok mem4))) ?_
   rintro _ w28 ⟨rfl, hG⟩
   have hw28 := hG _ _ _ _ hw7
   try clear hG hw7
   simp only [List.cons_append, List.nil_append] at hw28
   refine l_turn (s := 35) (v' := wideV (entS (m.h.asks.getD m.h.nx 0)).1) rfl (by rw [Int.toNat_of_nonneg hwb.2.1, hwa.1]) ?_
   refine l_nil ?_
   refine e_any (⟨hw28.ok mem7, hw28.ok mem8, hw28.ok mem9, hw28.ok mem10, hw28.ok mem0, hw28.io mem2, hw28.io mem11⟩) ?_
   refine a_two (L' := [true, true, true, true, true, true, true, true, true, true, true, true, true, true, true, true, true, true, true, true, true, true, true, true, false, false, false, false]) (L'' := [true, true, true, true, true, true, true, true, true, true, true, false, true, true, true, true, true, true, true, true, true, true, true, true, true, false, false, false]) 11 24 (by kernel_rfl) rfl rfl rfl rfl ?_ ?_
   ·skip
    refine l_load rfl rfl Try.underlying34 rfl rfl (sl_of hvr2 (hw28.io mem5)) (show (X.hs.map (·.vd))[i]? = some m.vd by rw [List.getElem?_map, hm]; rfl) ?_
    refine l_nil ?_
    refine e_any (⟨hw28.ok mem7, hw28.ok mem8, hw28.ok mem9, hw28.ok mem10, hw28.ok mem0, hw28.io mem2, hw28.io mem11⟩) ?_
    refine a_one (L' := [true, true, true, true, true, true, true, true, true, true, true, true, true, true, true, true, true, true, true, true, true, true, true, true, true, false, false, false]) 24 (by kernel_rfl) rfl rfl ?_
    refine l_lit2 hw28 rfl rfl Try.underlying34 ti77 rfl rfl rfl (fun b2_24 w29 hw29 => ?_)
    refine l_nil ?_
    refine e_any (⟨hw29.ok mem8, hw29.ok mem9, hw29.ok mem10, hw29.ok mem11, hw29.ok mem1, hw29.io mem3, hw29.io mem12⟩) ?_
    refine a_one (L' := [true, true, true, true, true, true, true, true, true, true, true, true, true, true, true, true, true, true, true, true, true, true, true, true, true, true, false, false]) 25 (by kernel_rfl) rfl rfl ?_
    have hw30 := St.frontL (l := [_, _, _, _, _, _, _, _, _, _, _, _, _]) hw29
    simp only [List.cons_append, List.nil_append] at hw30
    try clear hw29
    refine k_append1 (r := wrow (entS (m.h.asks.getD m.h.nx 0)).1) hw30 rfl rfl Try.underlying34 ti77 rfl rfl rfl rfl (blk_sl (hw30.ok mem1)) (by simp [Value.oneCell']) (by simp [readA]; omega) (by simp [readA]; omega) (fun v2_25 w31 hw31 => ?_)
    refine l_nil ?_
    refine e_any (⟨hw31.ok mem9, hw31.ok mem10, hw31.ok mem11, hw31.ok mem12, hw31.ok mem2, hw31.io mem4, hw31.io mem13⟩) ?_
    apply a_take (L' := [true, true, true, true, true, true, true, true, true, true, true, true, true, true, true, true, true, true, true, true, true, true, true, true, true, true, true, false]) 26 rfl (by kernel_rfl) (by kernel_rfl) (by kernel_rfl) rfl rfl rfl rfl rfl (⟨hw31.ok mem9, hw31.ok mem10, hw31.ok mem11, hw31.ok mem12, hw31.ok mem2, hw31.io mem4, hw31.io mem13⟩)
    ·intro wS sS
     refine v_addrx (j := i) rfl rfl Try.underlying56 tz34 rfl rfl hvr2 (by first | rfl | omega) (by first | omega | (simp; done) | (simp; omega)) ?_
     refine l_nil ?_
     exact e_got rfl
    refine a_one (L' := [true, true, true, true, true, true, true, true, true, true, true, true, true, true, true, true, true, true, true, true, true, true, true, true, true, true, true, true]) 27 (by kernel_rfl) rfl rfl ?_
    have hw32 := St.frontL (l := [_, _, _, _, _, _, _]) hw31
    simp only [List.cons_append, List.nil_append] at hw32
    try clear hw31
    refine v_store (j := i) hw32 .head hvr2 rfl tz34 rfl rfl (by omega) (own_one (hw32.ok mem1)) (fun w33 hw33 => ?_)
    refine l_nil ?_
    refine e_any (⟨hw33.ok mem9, hw33.ok mem10, hw33.ok mem11, hw33.ok mem12, hw33.ok mem3, hw33.io mem5, hw33.io mem13⟩) ?_
    refine a_done (by kernel_rfl) ?_
    try dsimp only
    refine e_done0 Try.results47 ?_
    refine ⟨_, rfl, ?_⟩
    have hw34 := St.frontL (l := [_, _, _, _, _, _, _]) hw33
    simp only [List.cons_append, List.nil_append] at hw34
    try clear hw33
    have hw35 := St.front2 hw34
    try clear hw34
    have hw36 := St.frontL (l := [_, _, _, _, _, _, _]) hw35
    simp only [List.cons_append, List.nil_append] at hw36
    try clear hw35
    have hw37 := St.frontL (l := [_, _, _, _, _, _, _, _, _, _, _, _, _]) hw36
    simp only [List.cons_append, List.nil_append] at hw37
    try clear hw36
    have hw38 := St.frontL (l := [_, _, _, _, _, _, _, _]) hw37
    simp only [List.cons_append, List.nil_append] at hw38
    try clear hw37
    have hw39 := St.frontL (l := [_, _, _, _, _, _, _, _]) hw38
    simp only [List.cons_append, List.nil_append] at hw39
    try clear hw38
    have hw40 := St.frontL (l := [_, _, _, _, _, _, _, _, _, _, _, _, _]) hw39
    simp only [List.cons_append, List.nil_append] at hw40
    try clear hw39
    have hw41 := St.frontL (l := [_, _, _, _, _, _, _, _, _, _, _, _, _]) hw40
    simp only [List.cons_append, List.nil_append] at hw41
    try clear hw40
    have hw42 := St.frontL (l := [_, _, _, _, _, _, _, _, _, _, _, _, _]) hw41
    simp only [List.cons_append, List.nil_append] at hw42
    try clear hw41
    have hw43 := St.frontL (l := [_, _, _, _, _, _, _, _, _, _, _, _, _]) hw42
    simp only [List.cons_append, List.nil_append] at hw43
    try clear hw42
    have hw44 := St.frontL (l := [_, _, _, _, _, _, _, _, _, _, _, _, _]) hw43
    simp only [List.cons_append, List.nil_append] at hw44
    try clear hw43
    have hw45 := St.frontL (l := [_, _, _, _, _, _, _, _, _, _, _]) hw44
    simp only [List.cons_append, List.nil_append] at hw45
    try clear hw44
    have hw46 := St.frontL (l := [_, _, _, _, _, _, _, _, _, _, _, _, _]) hw45
    simp only [List.cons_append, List.nil_append] at hw46
    try clear hw45
    have hw47 := St.del (.tail (.tail (.tail (.tail (.tail (.tail (.tail (.tail (.tail (.tail (.tail (.tail (.tail .head))))))))))))) hw46
    try clear hw46
    refine ⟨vt, v2_25, v, rfl, St.transS (hw47.cast ?_)⟩
    show _ = [_, As.ro _ _ ((X.hs.set i _).map _), _, _, _, _, _, _, As.ri _ _ _ (segsA (stepH (s : Int) m.h y.s).1.asks), As.ri _ _ _ (plcsA (stepH (s : Int) m.h y.s).1.asks), _, As.rk _ 2 _ (readA ((stepH (s : Int) m.h y.s).1.asks.take (stepH (s : Int) m.h y.s).1.nx)), _]
    rw [List.map_set, stepH_asks, show (stepH (s : Int) m.h y.s).1.nx = m.h.nx + 1 from by rw [hres], readA_succ hnx]
    rfl
   ·skip
    refine l_lit2 hw28 rfl rfl Try.underlying34 ti77 rfl rfl rfl (fun b2_24 w48 hw48 => ?_)
    refine l_nil ?_
    refine e_any (⟨hw48.ok mem8, hw48.ok mem9, hw48.ok mem10, hw48.ok mem11, hw48.ok mem1, hw48.io mem3, hw48.io mem12⟩) ?_
    refine a_one (L' := [true, true, true, true, true, true, true, true, true, true, true, true, true, true, true, true, true, true, true, true, true, true, true, true, true, false, false, false]) 11 (by kernel_rfl) rfl rfl ?_
    refine l_load rfl rfl Try.underlying34 rfl rfl (sl_of hvr2 (hw48.io mem6)) (show (X.hs.map (·.vd))[i]? = some m.vd by rw [List.getElem?_map, hm]; rfl) ?_
    refine l_nil ?_
    refine e_any (⟨hw48.ok mem8, hw48.ok mem9, hw48.ok mem10, hw48.ok mem11, hw48.ok mem1, hw48.io mem3, hw48.io mem12⟩) ?_
    refine a_one (L' := [true, true, true, true, true, true, true, true, true, true, true, true, true, true, true, true, true, true, true, true, true, true, true, true, true, true, false, false]) 25 (by kernel_rfl) rfl rfl ?_
    have hw49 := St.frontL (l := [_, _, _, _, _, _, _, _, _, _, _, _, _]) hw48
    simp only [List.cons_append, List.nil_append] at hw49
    try clear hw48
    refine k_append1 (r := wrow (entS (m.h.asks.getD m.h.nx 0)).1) hw49 rfl rfl Try.underlying34 ti77 rfl rfl rfl rfl (blk_sl (hw49.ok mem1)) (by simp [Value.oneCell']) (by simp [readA]; omega) (by simp [readA]; omega) (fun v2_25 w50 hw50 => ?_)
    refine l_nil ?_
    refine e_any (⟨hw50.ok mem9, hw50.ok mem10, hw50.ok mem11, hw50.ok mem12, hw50.ok mem2, hw50.io mem4, hw50.io mem13⟩) ?_
    apply a_take (L' := [true, true, true, true, true, true, true, true, true, true, true, true, true, true, true, true, true, true, true, true, true, true, true, true, true, true, true, false]) 26 rfl (by kernel_rfl) (by kernel_rfl) (by kernel_rfl) rfl rfl rfl rfl rfl (⟨hw50.ok mem9, hw50.ok mem10, hw50.ok mem11, hw50.ok mem12, hw50.ok mem2, hw50.io mem4, hw50.io mem13⟩)
    ·intro wS sS
     refine v_addrx (j := i) rfl rfl Try.underlying56 tz34 rfl rfl hvr2 (by first | rfl | omega) (by first | omega | (simp; done) | (simp; omega)) ?_
     refine l_nil ?_
     exact e_got rfl
    refine a_one (L' := [true, true, true, true, true, true, true, true, true, true, true, true, true, true, true, true, true, true, true, true, true, true, true, true, true, true, true, true]) 27 (by kernel_rfl) rfl rfl ?_
    have hw51 := St.frontL (l := [_, _, _, _, _, _, _]) hw50
    simp only [List.cons_append, List.nil_append] at hw51
    try clear hw50
    refine v_store (j := i) hw51 .head hvr2 rfl tz34 rfl rfl (by omega) (own_one (hw51.ok mem1)) (fun w52 hw52 => ?_)
    refine l_nil ?_
    refine e_any (⟨hw52.ok mem9, hw52.ok mem10, hw52.ok mem11, hw52.ok mem12, hw52.ok mem3, hw52.io mem5, hw52.io mem13⟩) ?_
    refine a_done (by kernel_rfl) ?_
    try dsimp only
    refine e_done0 Try.results47 ?_
    refine ⟨_, rfl, ?_⟩
    have hw53 := St.frontL (l := [_, _, _, _, _, _, _]) hw52
    simp only [List.cons_append, List.nil_append] at hw53
    try clear hw52
    have hw54 := St.front2 hw53
    try clear hw53
    have hw55 := St.frontL (l := [_, _, _, _, _, _, _]) hw54
    simp only [List.cons_append, List.nil_append] at hw55
    try clear hw54
    have hw56 := St.frontL (l := [_, _, _, _, _, _, _, _, _, _, _, _, _]) hw55
    simp only [List.cons_append, List.nil_append] at hw56
    try clear hw55
    have hw57 := St.frontL (l := [_, _, _, _, _, _, _, _]) hw56
    simp only [List.cons_append, List.nil_append] at hw57
    try clear hw56
    have hw58 := St.frontL (l := [_, _, _, _, _, _, _, _]) hw57
    simp only [List.cons_append, List.nil_append] at hw58
    try clear hw57
    have hw59 := St.frontL (l := [_, _, _, _, _, _, _, _, _, _, _, _, _]) hw58
    simp only [List.cons_append, List.nil_append] at hw59
    try clear hw58
    have hw60 := St.frontL (l := [_, _, _, _, _, _, _, _, _, _, _, _, _]) hw59
    simp only [List.cons_append, List.nil_append] at hw60
    try clear hw59
    have hw61 := St.frontL (l := [_, _, _, _, _, _, _, _, _, _, _, _, _]) hw60
    simp only [List.cons_append, List.nil_append] at hw61
    try clear hw60
    have hw62 := St.frontL (l := [_, _, _, _, _, _, _, _, _, _, _, _, _]) hw61
    simp only [List.cons_append, List.nil_append] at hw62
    try clear hw61
    have hw63 := St.frontL (l := [_, _, _, _, _, _, _, _, _, _, _, _, _]) hw62
    simp only [List.cons_append, List.nil_append] at hw63
    try clear hw62
    have hw64 := St.frontL (l := [_, _, _, _, _, _, _, _, _, _, _]) hw63
    simp only [List.cons_append, List.nil_append] at hw64
    try clear hw63
    have hw65 := St.frontL (l := [_, _, _, _, _, _, _, _, _, _, _, _, _]) hw64
    simp only [List.cons_append, List.nil_append] at hw65
    try clear hw64
    have hw66 := St.del (.tail (.tail (.tail (.tail (.tail (.tail (.tail (.tail (.tail (.tail (.tail (.tail (.tail .head))))))))))))) hw65
    try clear hw65
    refine ⟨vt, v2_25, v, rfl, St.transS (hw66.cast ?_)⟩
    show _ = [_, As.ro _ _ ((X.hs.set i _).map _), _, _, _, _, _, _, As.ri _ _ _ (segsA (stepH (s : Int) m.h y.s).1.asks), As.ri _ _ _ (plcsA (stepH (s : Int) m.h y.s).1.asks), _, As.rk _ 2 _ (readA ((stepH (s : Int) m.h y.s).1.asks.take (stepH (s : Int) m.h y.s).1.nx)), _]
    rw [List.map_set, stepH_asks, show (stepH (s : Int) m.h y.s).1.nx = m.h.nx + 1 from by rw [hres], readA_succ hnx]
    rfl
 ·skip
  refine c_skip ?_
  try dsimp only
  refine e_done0 Try.results47 ?_
  refine ⟨_, rfl, ?_⟩
  have hw67 := St.front4 hw6
  try clear hw6
  have hw68 := St.frontL (l := [_, _, _, _, _, _, _, _, _, _, _, _]) hw67
  simp only [List.cons_append, List.nil_append] at hw68
  try clear hw67
  have hw69 := St.front5 hw68
  try clear hw68
  have hw70 := St.frontL (l := [_, _, _, _, _, _, _, _, _, _, _, _]) hw69
  simp only [List.cons_append, List.nil_append] at hw70
  try clear hw69
  have hw71 := St.frontL (l := [_, _, _, _, _, _]) hw70
  simp only [List.cons_append, List.nil_append] at hw71
  try clear hw70
  have hw72 := St.frontL (l := [_, _, _, _, _, _]) hw71
  simp only [List.cons_append, List.nil_append] at hw72
  try clear hw71
  have hw73 := St.frontL (l := [_, _, _, _, _, _, _, _, _, _, _, _]) hw72
  simp only [List.cons_append, List.nil_append] at hw73
  try clear hw72
  have hw74 := St.frontL (l := [_, _, _, _, _, _, _, _, _, _, _, _]) hw73
  simp only [List.cons_append, List.nil_append] at hw74
  try clear hw73
  have hw75 := St.frontL (l := [_, _, _, _, _, _, _, _, _, _, _, _]) hw74
  simp only [List.cons_append, List.nil_append] at hw75
  try clear hw74
  have hw76 := St.frontL (l := [_, _, _, _, _, _, _, _, _, _, _, _]) hw75
  simp only [List.cons_append, List.nil_append] at hw76
  try clear hw75
  have hw77 := St.frontL (l := [_, _, _, _, _, _, _, _, _, _, _, _]) hw76
  simp only [List.cons_append, List.nil_append] at hw77
  try clear hw76
  have hw78 := St.frontL (l := [_, _, _, _, _, _, _, _, _, _, _, _]) hw77
  simp only [List.cons_append, List.nil_append] at hw78
  try clear hw77
  have hw79 := St.frontL (l := [_, _, _, _, _, _, _, _, _, _, _, _]) hw78
  simp only [List.cons_append, List.nil_append] at hw79
  try clear hw78
  refine ⟨vt, m.vd, v, rfl, St.transS (hw79.cast ?_)⟩
  show _ = [_, As.ro _ _ ((X.hs.set i _).map _), _, _, _, _, _, _, As.ri _ _ _ (segsA (stepH (s : Int) m.h y.s).1.asks), As.ri _ _ _ (plcsA (stepH (s : Int) m.h y.s).1.asks), _, As.rk _ 2 _ (readA ((stepH (s : Int) m.h y.s).1.asks.take (stepH (s : Int) m.h y.s).1.nx)), _]
  rw [List.map_set, stepH_asks, stepH_nx hkl (by rw [hc0]; exact Bool.false_ne_true), set_id (show (X.hs.map (·.vd))[i]? = some m.vd by rw [List.getElem?_map, hm]; rfl)]
  rfl
def wantN (h : Hd) : Nat := (wantH h).toNat
def sgN (G : GW) (s : Nat) : Sg := G.sg.getD s ⟨0, 0, false⟩
def mayG (G : GW) (i : Nat) : Bool := match G.hs[i]? with
 | some h => mayH h (sgN G (wantN h))
 | none => false
def stepG (G : GW) (i : Nat) : GW := match G.hs[i]? with
 | some h => ⟨G.hs.set i (stepH (wantH h) h (sgN G (wantN h))).1, G.sg.set (wantN h) (stepH (wantH h) h (sgN G (wantN h))).2, (i + 1) % G.hs.length⟩
 | none => G
structure HdOk (G : GW) (h : Hd) : Prop where
 q : ∀ q ∈ h.asks, -342 ≤ q ∧ q ≤ 308
 al : h.asks.length ≤ 64
 line : h.line = 1 ∨ h.line = 2 ∨ h.line = 3 ∨ h.line = 4
 nx : h.line ≠ 4 → h.nx < h.asks.length
 en : h.line = 4 → h.nx = h.asks.length
 b2 : h.line = 2 → h.tk = wantH h ∧ (sgN G (wantN h)).built = 1 ∧ (sgN G (wantN h)).done = false ∧ (sgN G (wantN h)).laid < segLen (wantH h)
 b3 : h.line = 3 → (sgN G (wantN h)).built = 1 ∧ (sgN G (wantN h)).done = false ∧ (sgN G (wantN h)).laid = segLen (wantH h)
 dn : ∀ k, k < h.nx → (sgN G (whereS (h.asks.getD k 0)).1.toNat).done = true
def SgOk (s : Nat) (y : Sg) : Prop := (y.built = 0 ∧ y.laid = 0 ∧ y.done = false) ∨ (y.built = 1 ∧ y.done = false ∧ y.laid ≤ segLen (s : Int)) ∨ (y.built = 1 ∧ y.done = true ∧ y.laid = segLen (s : Int))
structure Wf (G : GW) : Prop where
 n16 : G.hs.length ≤ 16
 sg : G.sg.length = 41
 fr : G.fr ≤ 16
 hd : ∀ (i : Nat) (h : Hd), G.hs[i]? = some h → HdOk G h
 sok : ∀ (s : Nat) (y : Sg), G.sg[s]? = some y → SgOk s y
 un : ∀ (i j : Nat) (h k : Hd), i ≠ j → G.hs[i]? = some h → G.hs[j]? = some k → (h.line = 2 ∨ h.line = 3) → (k.line = 2 ∨ k.line = 3) → wantH h ≠ wantH k
theorem want_bd (h : Hd) : wantH h = (wantN h : Int) ∧ wantN h < 41 := by
 have := where_bd (h.asks.getD h.nx 0)
 unfold wantN wantH
 omega
theorem sgN_at {G : GW} {s : Nat} {y : Sg} (h : G.sg[s]? = some y) : sgN G s = y := by simp [sgN, List.getD, h]
theorem Wf.at {G : GW} (hw : Wf G) {s : Nat} (hs : s < 41) : G.sg[s]? = some (sgN G s) := by
 have := hw.sg
 simp [sgN, List.getD, show s < G.sg.length by omega]
theorem Wf.wk {G : GW} (hw : Wf G) {i : Nat} {h : Hd} (hi : G.hs[i]? = some h) (hm : mayG G i = true) : WkOk (wantN h) h (sgN G (wantN h)) := by
 have ho := hw.hd i h hi
 have hb := want_bd h
 have hs := hw.sok _ _ (hw.at hb.2)
 unfold mayG at hm
 rw [hi] at hm
 dsimp only at hm
 unfold mayH at hm
 have hl : h.line = 1 ∨ h.line = 2 ∨ h.line = 3 := by
  split at hm
  ·exact .inl (by assumption)
  ·exact .inr (by simpa using hm)
 refine ⟨hl, ho.nx (by omega), hb.1, fun h2 => ?_, ?_, ho.al, fun h1 => ?_⟩
 ·obtain ⟨e1, e2, e3, e4⟩ := ho.b2 h2
  exact ⟨by rw [e1]; exact hb.1, by rw [← hb.1]; exact e4⟩
 ·rcases hs with h1 | h1 | h1 <;> omega
 ·rw [if_pos h1] at hm
  simpa using hm
theorem SgOk.dn {s : Nat} {y : Sg} (h : SgOk s y) (hd : y.done = true) : y.laid = segLen (s : Int) := by
 rcases h with h | h | h
 ·rw [h.2.2] at hd; cases hd
 ·rw [h.2.1] at hd; cases hd
 ·exact h.2.2
theorem SgOk.le {s : Nat} {y : Sg} (h : SgOk s y) : y.laid ≤ segLen (s : Int) := by
 rcases h with h | h | h <;> omega
/-! ### the facts that those who only read rely on -/
structure GF (b : Nat) (X : Gm) (w : World) : Prop where
 hb : (As.blk b 66 (gC X)).ok w
 hh : IK w 3 X.vh (X.hs.map handV)
 hr : IV w X.vr (X.hs.map (·.vd))
 hs : ∀ A ∈ restG b X, A.ok w ∧ ∀ k, A.fp k → k < w.heap.size
theorem handV_rows (L : List Hm) : Rows_ 3 (L.map handV) := fun r hr => by
 obtain ⟨m, _, rfl⟩ := List.mem_map.1 hr
 exact ⟨rfl, by simp [handV, Value.oneCell']⟩
theorem GF.of {w0 w : World} {B : Nat} {M : Nat → Prop} {σ : List As} {b : Nat} {X : Gm} (hw : St w0 B M (gW b X ++ σ) w) : GF b X w :=
 ⟨hw.ok (.head _), Own.ik (handV_rows _) (hw.ok (.tail _ (.head _))), Own.iv (hw.ok (.tail _ (.tail _ (.head _)))), fun A hA =>
  ⟨(hw.ok (show As.sep (restG b X) ∈ gW b X ++ σ from .tail _ (.tail _ (.tail _ (.head _))))).1 A hA, fun k hk => (hw.sep.lt (show As.sep (restG b X) ∈ gW b X ++ σ from .tail _ (.tail _ (.tail _ (.head _)))) k ⟨A, hA, hk⟩).2⟩⟩
theorem GF.arg {w0 w : World} {σ : List As} {b : Nat} {X : Gm} (h : GF b X w0) (hw : St w0 w0.heap.size None' σ w) : GF b X w :=
 ⟨okarg hw h.hb, hw.ikarg h.hh, hw.iarg h.hr, fun A hA => ⟨A.loc w0 w (fun k hk => hw.ext.block k ((h.hs A hA).2 k hk) (fun e => e)) (h.hs A hA).1, fun k hk => Nat.lt_of_lt_of_le ((h.hs A hA).2 k hk) hw.ext.size⟩⟩
theorem hrow_mem {b i : Nat} {X : Gm} {m : Hm} (hm : X.hs[i]? = some m) {A : As} (hA : A ∈ hrow b i m) : A ∈ restG b X := by
 refine List.mem_append_left _ (List.mem_flatten.2 ⟨hrow b i m, ?_, hA⟩)
 obtain ⟨h1, rfl⟩ := List.getElem?_eq_some_iff.1 hm
 exact List.mem_iff_getElem.2 ⟨i, by simpa using h1, by simp⟩
theorem srow_mem {b s : Nat} {X : Gm} {y : Sm} (hy : X.sg[s]? = some y) : srow s y ∈ restG b X := by
 refine List.mem_append_right _ ?_
 obtain ⟨h1, rfl⟩ := List.getElem?_eq_some_iff.1 hy
 exact List.mem_iff_getElem.2 ⟨s, by simpa using h1, by simp⟩
theorem GF.bw {b i : Nat} {X : Gm} {m : Hm} {w : World} (h : GF b X w) (hm : X.hs[i]? = some m) : (As.blk m.bw 83 [ptr m.wb]).ok w := (h.hs _ (hrow_mem hm (.head _))).1
theorem GF.wb {b i : Nat} {X : Gm} {m : Hm} {w : World} (h : GF b X w) (hm : X.hs[i]? = some m) : (As.blk m.wb 99 (wkC b m)).ok w := (h.hs _ (hrow_mem (i := i) hm (.tail _ (.tail _ (.tail _ (.tail _ (.tail _ (.head _)))))))).1
theorem GF.vn {b i : Nat} {X : Gm} {m : Hm} {w : World} (h : GF b X w) (hm : X.hs[i]? = some m) : IV w m.vn (ints .i64 (segsA m.h.asks)) := Own.iv (h.hs _ (hrow_mem (i := i) hm (.tail _ (.tail _ (.tail _ (.tail _ (.tail _ (.tail _ (.head _))))))))).1
theorem GF.vd {b i : Nat} {X : Gm} {m : Hm} {w : World} (h : GF b X w) (hm : X.hs[i]? = some m) : IK w 2 m.vd (readA (m.h.asks.take m.h.nx)) := Own.ik (readA_rows _) (h.hs _ (hrow_mem (i := i) hm mem9)).1
theorem GF.vs {b s : Nat} {X : Gm} {y : Sm} {w : World} (h : GF b X w) (hy : X.sg[s]? = some y) : IK w 2 y.v ((segR (s : Int)).take y.s.laid) ∧ y.v.oneCell' = true := ⟨Own.ik (take_rows _ _) (h.hs _ (srow_mem hy)).1, own_one (h.hs _ (srow_mem hy)).1⟩
theorem abs_hs {X : Gm} {i : Nat} {m : Hm} (hm : X.hs[i]? = some m) : X.abs.hs[i]? = some m.h := by
 show (X.hs.map (·.h))[i]? = _
 rw [List.getElem?_map, hm]; rfl
theorem abs_sg {X : Gm} {s : Nat} {y : Sm} (hy : X.sg[s]? = some y) : sgN X.abs s = y.s := by
 refine sgN_at ?_
 show (X.sg.map (·.s))[s]? = _
 rw [List.getElem?_map, hy]; rfl
theorem Wf.sgX {X : Gm} (hw : Wf X.abs) : X.sg.length = 41 := by
 have := hw.sg
 simpa [Gm.abs] using this
theorem Wf.smX {X : Gm} (hw : Wf X.abs) (s : Nat) (hs : s < 41) : ∃ y, X.sg[s]? = some y := ⟨_, List.getElem?_eq_getElem (by rw [hw.sgX]; exact hs)⟩
theorem mayCG (b i : Nat) (X : Gm) (hwf : Wf X.abs) (m : Hm) (hm : X.hs[i]? = some m) (c : Int) (w : World) (hG : GF b X w) :
  CallsV P 45 [.int .i64 c, ptr m.bw] w fun r w' => r = .bool (decide (c = 0 ∧ mayG X.abs i = true)) ∧ Grow w w' [] := by
 have hb := want_bd m.h
 obtain ⟨y, hy⟩ := hwf.smX (wantN m.h) hb.2
 have e : mayG X.abs i = mayH m.h y.s := by
  unfold mayG
  rw [abs_hs hm]
  dsimp only
  rw [abs_sg hy]
 rw [e]
 exact mayC b X m (wantN m.h) hb.2 y hy c (hG.vs hy).2 (fun h1 => ⟨(hwf.hd i m.h (abs_hs hm)).nx (by omega), hb.1⟩) w hG.hb (hG.bw hm) (hG.wb hm) (hG.vn hm)
theorem atCG (b i : Nat) (X : Gm) (hwf : Wf X.abs) (m : Hm) (hm : X.hs[i]? = some m) (w : World) (hG : GF b X w) :
  CallsV P 51 [ptr m.bw] w fun r w' => r = .agg #[.int .i64 m.h.line, .int .i64 (m.h.nx : Int), .int .i64 (if m.h.line = 2 ∨ m.h.line = 3 then wantH m.h else -1)] ∧ Grow w w' [] :=
 atC b m (fun h1 => (hwf.hd i m.h (abs_hs hm)).nx (by omega)) w (hG.bw hm) (hG.wb hm) (hG.vn hm)
theorem gw_perm {R σ : List As} {S a v r : As} : (R ++ (S :: a :: v :: r :: σ)).Perm (a :: r :: (R ++ (v :: S :: σ))) := by
 have h4 : (S :: a :: v :: r :: σ).Perm (a :: r :: v :: S :: σ) :=
  (List.Perm.swap a S (v :: r :: σ)).trans (.cons a (((List.Perm.swap v S (r :: σ))).trans ((List.Perm.cons v (List.Perm.swap r S σ)).trans (List.Perm.swap r v (S :: σ)))))
 refine (h4.append_left R).trans ((List.perm_middle (l₁ := R) (a := a) (l₂ := r :: v :: S :: σ)).trans (.cons a (List.perm_middle (l₁ := R) (a := r) (l₂ := v :: S :: σ))))
theorem gw_open {w0 w : World} {B : Nat} {M : Nat → Prop} {σ O : List As} {b i s : Nat} {X : Gm} {m : Hm} {y : Sm} (hp : (restG b X).Perm (hrow b i m ++ srow s y :: O)) (h : St w0 B M (gW b X ++ σ) w) :
  St w0 B M (dW b X i m s y ++ (As.rk 73 3 X.vh (X.hs.map handV) :: As.sep O :: σ)) w := by
 have h1 := St.frontL (l := [_, _, _]) h
 have h2 := sep_take (l := hrow b i m ++ [srow s y]) (hp.trans (by rw [List.append_assoc]; exact .refl _)) h1
 exact St.perm gw_perm h2
theorem gw_close {w0 w : World} {B : Nat} {M : Nat → Prop} {σ O : List As} {b i s : Nat} {X : Gm} {m : Hm} {y : Sm} (hp : (hrow b i m ++ srow s y :: O).Perm (restG b X))
  (h : St w0 B M (dW b X i m s y ++ (As.rk 73 3 X.vh (X.hs.map handV) :: As.sep O :: σ)) w) : St w0 B M (gW b X ++ σ) w := by
 have h1 := St.perm (gw_perm (R := hrow b i m ++ [srow s y])).symm h
 have h2 := sep_put (l := hrow b i m ++ [srow s y]) ((show _ from (by rw [List.append_assoc]; exact .refl _ : ((hrow b i m ++ [srow s y]) ++ O).Perm (hrow b i m ++ srow s y :: O))).trans hp) h1
 exact St.perm (List.perm_middle (l₁ := [_, _, _]) (a := As.sep (restG b X)) (l₂ := σ)).symm h2
theorem doG (b i : Nat) (X : Gm) (hwf : Wf X.abs) (m : Hm) (hm : X.hs[i]? = some m) (hmay : mayG X.abs i = true) (c : Int) (w : World) (hS : Sep w.heap.size (fps (gW b X)) w (gW b X)) :
  CallsV P 47 [.int .i64 c, ptr m.bw, ptr m.bg, ptr m.bi, ptr m.bs, ptr m.bp] w fun r w' => ∃ Y : Gm, r = .tuple #[] ∧ ((stepG X.abs i).hs = Y.abs.hs ∧ (stepG X.abs i).sg = Y.abs.sg ∧ Y.vh = X.vh ∧ Y.hs.map handV = X.hs.map handV) ∧ Trans w w' (gW b X) (gW b Y) := by
 have hb := want_bd m.h
 obtain ⟨y, hy⟩ := hwf.smX (wantN m.h) hb.2
 have hs := abs_sg hy
 have hwk := hwf.wk (abs_hs hm) hmay
 rw [hs] at hwk
 have hsk := hwf.sok _ _ (hwf.at hb.2)
 rw [hs] at hsk
 obtain ⟨O, hp, hq⟩ := rest_split (b := b) hm hy
 have h0 := gw_open (σ := []) hp (by simpa using St.startS hS)
 refine Calls.mono (doC2 b i X m (wantN m.h) hb.2 y hy hm hwf.sgX c hwk (hwf.hd i m.h (abs_hs hm)).q hsk.dn w (St.rows (τ := dW b X i m (wantN m.h) y) h0)) fun e w' he => ?_
 obtain ⟨r, rfl, vt, vd, v, rfl, hT⟩ := he
 refine ⟨_, rfl, XDo X i (mDo (wantN m.h) m y vt vd) (wantN m.h) (ySt (wantN m.h) m y v), rfl, ?_, fun w0 B M σ h => ?_⟩
 ·have he : stepG X.abs i = ⟨X.abs.hs.set i (stepH (wantH m.h) m.h y.s).1, X.abs.sg.set (wantN m.h) (stepH (wantH m.h) m.h y.s).2, (i + 1) % X.abs.hs.length⟩ := by
   unfold stepG
   rw [abs_hs hm]
   dsimp only
   rw [hs]
  rw [he]
  refine ⟨?_, ?_, rfl, ?_⟩
  ·show (X.hs.map (·.h)).set i _ = (X.hs.set i _).map (·.h)
   rw [List.map_set, hb.1]
  ·show (X.sg.map (·.s)).set _ _ = (X.sg.set _ _).map (·.s)
   rw [List.map_set, hb.1]
  ·show (X.hs.set i _).map handV = _
   rw [List.map_set]
   exact set_id (by rw [List.getElem?_map, hm]; rfl)
 ·have h1 := gw_open hp h
  have h2 := hT _ _ _ _ h1
  refine gw_close (hq (mDo (wantN m.h) m y vt vd) (ySt (wantN m.h) m y v) _ rfl rfl) ?_
  rw [show (XDo X i (mDo (wantN m.h) m y vt vd) (wantN m.h) (ySt (wantN m.h) m y v)).hs.map handV = X.hs.map handV from by
   show (X.hs.set i _).map handV = _
   rw [List.map_set]
   exact set_id (by rw [List.getElem?_map, hm]; rfl)]
  exact h2
def fieldTy (P : Program) (s f : Nat) : Option (Nat × Bool) := match P.underlying s with
 | some (.struct fs) => (fs[f]?).bind fun fl => (P.underlying fl.type).map fun u => (fl.offset, plainT u)
 | _ => none
theorem l_fieldv {P : Program} {N : Nat} {Q : PostM} {ρ : Env} {w : World} {ops : Array Oper} {rest : List Oper} {d : Nat} {ty : TypeId} {pos : String} {af : Array Edge} {g : Option (Nat × Bool)} {x : Operand} {s f o : Nat} {vs : Array Value} {v : Value} (hF : fieldTy P s f = some (o, true))
  (hg : wantE ops ρ g = true) (hN : Nat.blt d N = true) (hx : evalE ρ x = some (.agg vs)) (hv : vs[o]? = some v) (n : RunL P N ops Q rest ((d, v) :: ρ) w) : RunL P N ops Q (⟨some d, .field s x f, ty, pos, af, g⟩ :: rest) ρ w :=
 l_val hg rfl hN (fun a ha => by
  unfold fieldTy at hF
  split at hF
  ·rename_i fs hs
   cases hf : fs[f]? with
   | none => simp [hf] at hF
   | some fl =>
    cases hq : P.underlying fl.type with
    | none => simp [hf, hq] at hF
    | some u =>
     simp only [hf, hq, Option.bind_some, Option.map_some, Option.some.injEq, Prod.mk.injEq] at hF
     obtain ⟨rfl, hp⟩ := hF
     have hag : (isAgg fl.type).run P w = .ok false w := by
      simp only [isAgg, Sem.run_bind, run_underlying hq, Result.andThen_ok]
      cases u <;> first | rfl | (simp [plainT] at hp; done) | simp
     simp only [execOp, ha.eval hx, Instr.field, Sem.run_bind, run_underlying hs, Result.andThen_ok]
     simp [hf, asAgg, part, hag, hv]
  ·cases hF) n
theorem gC_setFr (X : Gm) (v : Nat) {cs : List Value} (hc : cs = gC X) : SetAt cs 1 (.int .i64 (v : Int)) (gC { X with fr := v }) := hc ▸ .succ .zero
theorem stepG_eq {G : GW} {i : Nat} (hi : i < G.hs.length) : (stepG G i).fr = (i + 1) % G.hs.length ∧ (stepG G i).hs.length = G.hs.length := by
 unfold stepG
 rw [List.getElem?_eq_getElem hi]
 dsimp only
 exact ⟨rfl, by simp⟩
def nextG (G : GW) : Option Nat := ((List.range G.hs.length).map fun i => (G.fr + i) % G.hs.length).find? (mayG G)
theorem next_some {G : GW} {i : Nat} (hi : i < G.hs.length) (h : mayG G ((G.fr + i) % G.hs.length) = true) (hno : ∀ j, j < i → mayG G ((G.fr + j) % G.hs.length) = false) : nextG G = some ((G.fr + i) % G.hs.length) := by
 unfold nextG
 have hf : (List.range G.hs.length).find? (mayG G ∘ fun i => (G.fr + i) % G.hs.length) = some i := List.find?_range_eq_some.2 ⟨h, List.mem_range.2 hi, fun j hj => by simp [Function.comp, hno j hj]⟩
 rw [List.find?_map, hf]
 rfl
theorem next_none {G : GW} (hno : ∀ j, j < G.hs.length → mayG G ((G.fr + j) % G.hs.length) = false) : nextG G = none := by
 unfold nextG
 have hf : (List.range G.hs.length).find? (mayG G ∘ fun i => (G.fr + i) % G.hs.length) = none := List.find?_eq_none.2 fun j hj => by simp [Function.comp, hno j (List.mem_range.1 hj)]
 rw [List.find?_map, hf]
 rfl
abbrev moveV (o : Option Nat) : Value := .agg #[.int .i64 ((o.getD 0 : Nat) : Int), .int .i64 0]
def handF (G : GW) (i : Int) : Int × Int × Int := if 0 ≤ i then (match G.hs[i.toNat]? with
 | some h => (h.line, (h.nx : Int), if h.line = 2 ∨ h.line = 3 then wantH h else -1)
 | none => (0, 0, 0)) else (0, 0, 0)
abbrev handVal (t : Int × Int × Int) : Value := .agg #[.int .i64 t.1, .int .i64 t.2.1, .int .i64 t.2.2]
def overG (G : GW) : Bool := G.hs.all fun h => decide (h.line = 4)
theorem moveD (b : Nat) (X : Gm) (hwf : Wf X.abs) (i : Nat) (hi : i < X.hs.length) (hmay : mayG X.abs i = true) (c : Int) (w : World) (hS : Sep w.heap.size (fps (gW b X)) w (gW b X)) :
  CallsV P 54 [ptr b, .agg #[.int .i64 (i : Int), .int .i64 c]] w fun r w' => ∃ Y : Gm, r = .tuple #[] ∧ Y.abs = stepG X.abs i ∧ Trans w w' (gW b X) (gW b Y) := by
 refine enterW Try.func54 rfl Try.ntmps54 rfl ?_
 have hw0 : St w w.heap.size (fps (gW b X)) (gW b X) w := St.startS hS
 have hn16 : X.hs.length ≤ 16 := by simpa [Gm.abs] using hwf.n16
 have hfr16 : X.fr ≤ 16 := hwf.fr
 obtain ⟨m, hm⟩ : ∃ m, X.hs[i]? = some m := ⟨_, List.getElem?_eq_getElem hi⟩
 refine c_seq (c_region ?_)
 refine l_box hw0 rfl rfl rfl (fun b0_0 w1 hw1 => ?_)
 try clear hw0
 refine l_nil (e_then ?_)
 refine c_keep [0, 3] (.cons rfl (.cons rfl .nil)) ?_
 refine c_seq ?_
 have hw2 := hw1.drewn
 try clear hw1
 have hrow : (X.hs.map handV)[i]? = some (handV m) := by rw [List.getElem?_map, hm]; rfl
 have hil := (List.getElem?_eq_some_iff.1 hm).1
 have hmal : (X.hs.map handV).length = X.hs.length := List.length_map _
 obtain ⟨Ah, ch, hvh⟩ : ∃ A c, X.vh = .slice (some A) (X.hs.map handV).length c := by
  obtain ⟨_, A, c, e, _, hs⟩ := Own.ik (handV_rows _) (hw2.ok mem2)
  obtain ⟨ad, rfl⟩ := hs.some_ (by rw [(handV_rows _).len]; omega)
  exact ⟨ad, c, e⟩
 refine c_any (n := 12) [false, false, false, false, false, false, false, false, false, false, false, false] (fun wS => (∃ cs, (As.blk b 66 cs).ok wS ∧ cs[0]? = some X.vh) ∧ IK wS 3 X.vh (X.hs.map handV) ∧ (As.blk b0_0 47 [.int .i64 (i : Int), .int .i64 c]).ok wS) (by kernel_rfl) rfl rfl ?_
 apply a_take (L' := [true, false, false, false, false, false, false, false, false, false, false, false]) 0 rfl (by kernel_rfl) (by kernel_rfl) (by kernel_rfl) rfl rfl rfl rfl rfl (⟨⟨_, hw2.ok mem1, by first | rfl | exact congrArg some hYv⟩, Own.ik (handV_rows _) (hw2.ok mem2), hw2.ok mem0⟩)
 ·intro wS sS
  refine l_move rfl rfl rfl (l_nil ?_)
  exact e_got rfl
 refine a_nil (L' := [true, true, false, false, false, false, false, false, false, false, false, false]) 1 rfl (by kernel_rfl) (by kernel_rfl) (by kernel_rfl) rfl rfl rfl (⟨⟨_, hw2.ok mem1, by first | rfl | exact congrArg some hYv⟩, Own.ik (handV_rows _) (hw2.ok mem2), hw2.ok mem0⟩) rfl ?_
 apply a_take (L' := [true, true, true, false, false, false, false, false, false, false, false, false]) 2 rfl (by kernel_rfl) (by kernel_rfl) (by kernel_rfl) rfl rfl rfl rfl rfl (⟨⟨_, hw2.ok mem1, by first | rfl | exact congrArg some hYv⟩, Own.ik (handV_rows _) (hw2.ok mem2), hw2.ok mem0⟩)
 ·intro wS sS
  refine l_field fo59_0 rfl rfl rfl (l_nil ?_)
  exact e_got rfl
 apply a_take (L' := [true, true, true, true, false, false, false, false, false, false, false, false]) 3 rfl (by kernel_rfl) (by kernel_rfl) (by kernel_rfl) rfl rfl rfl rfl rfl (⟨⟨_, hw2.ok mem1, by first | rfl | exact congrArg some hYv⟩, Own.ik (handV_rows _) (hw2.ok mem2), hw2.ok mem0⟩)
 ·intro wS sS
  obtain ⟨cs, hcs, hc0⟩ := sS.1
  refine l_load_blk (blk_st hcs) mem0 rfl rfl Try.underlying57 rfl rfl hc0 ?_
  refine l_nil ?_
  exact e_got rfl
 apply a_take (L' := [true, true, true, true, true, false, false, false, false, false, false, false]) 4 rfl (by kernel_rfl) (by kernel_rfl) (by kernel_rfl) rfl rfl rfl rfl rfl (⟨⟨_, hw2.ok mem1, by first | rfl | exact congrArg some hYv⟩, Own.ik (handV_rows _) (hw2.ok mem2), hw2.ok mem0⟩)
 ·intro wS sS
  refine l_field fo47_0 rfl rfl rfl (l_nil ?_)
  exact e_got rfl
 apply a_take (L' := [true, true, true, true, true, true, false, false, false, false, false, false]) 5 rfl (by kernel_rfl) (by kernel_rfl) (by kernel_rfl) rfl rfl rfl rfl rfl (⟨⟨_, hw2.ok mem1, by first | rfl | exact congrArg some hYv⟩, Own.ik (handV_rows _) (hw2.ok mem2), hw2.ok mem0⟩)
 ·intro wS sS
  refine l_load_blk (blk_st sS.2.2) mem0 rfl rfl Try.underlying3 rfl rfl rfl ?_
  refine l_nil ?_
  exact e_got rfl
 apply a_take (L' := [true, true, true, true, true, true, true, false, false, false, false, false]) 6 rfl (by kernel_rfl) (by kernel_rfl) (by kernel_rfl) rfl rfl rfl rfl rfl (⟨⟨_, hw2.ok mem1, by first | rfl | exact congrArg some hYv⟩, Own.ik (handV_rows _) (hw2.ok mem2), hw2.ok mem0⟩)
 ·intro wS sS
  refine k_addrx (j := i) rfl rfl Try.underlying57 tz73 (by decide) rfl rfl sS.2.1 hvh rfl (by omega) ?_
  refine l_nil ?_
  exact e_got rfl
 apply a_take (L' := [true, true, true, true, true, true, true, true, false, false, false, false]) 7 rfl (by kernel_rfl) (by kernel_rfl) (by kernel_rfl) rfl rfl rfl rfl rfl (⟨⟨_, hw2.ok mem1, by first | rfl | exact congrArg some hYv⟩, Own.ik (handV_rows _) (hw2.ok mem2), hw2.ok mem0⟩)
 ·intro wS sS
  refine k_field fo73_1 rfl rfl rfl ?_
  refine l_nil ?_
  exact e_got rfl
 apply a_take (L' := [true, true, true, true, true, true, true, true, true, false, false, false]) 8 rfl (by kernel_rfl) (by kernel_rfl) (by kernel_rfl) rfl rfl rfl rfl rfl (⟨⟨_, hw2.ok mem1, by first | rfl | exact congrArg some hYv⟩, Own.ik (handV_rows _) (hw2.ok mem2), hw2.ok mem0⟩)
 ·intro wS sS
  refine k_load1 (j := i) (o := 1) (r := handV m) rfl rfl Try.underlying70 rfl rfl hvh sS.2.1 hrow rfl ?_
  refine l_nil ?_
  exact e_got rfl
 apply a_take (L' := [true, true, true, true, true, true, true, true, true, true, false, false]) 9 rfl (by kernel_rfl) (by kernel_rfl) (by kernel_rfl) rfl rfl rfl rfl rfl (⟨⟨_, hw2.ok mem1, by first | rfl | exact congrArg some hYv⟩, Own.ik (handV_rows _) (hw2.ok mem2), hw2.ok mem0⟩)
 ·intro wS sS
  refine l_field fo47_1 rfl rfl rfl (l_nil ?_)
  exact e_got rfl
 apply a_take (L' := [true, true, true, true, true, true, true, true, true, true, true, false]) 10 rfl (by kernel_rfl) (by kernel_rfl) (by kernel_rfl) rfl rfl rfl rfl rfl (⟨⟨_, hw2.ok mem1, by first | rfl | exact congrArg some hYv⟩, Own.ik (handV_rows _) (hw2.ok mem2), hw2.ok mem0⟩)
 ·intro wS sS
  refine l_load_blk (blk_st sS.2.2) mem0 rfl rfl Try.underlying3 rfl rfl rfl ?_
  refine l_nil ?_
  exact e_got rfl
 refine a_one (L' := [true, true, true, true, true, true, true, true, true, true, true, true]) 11 (by kernel_rfl) rfl rfl ?_
 have hw3 := St.frontL (l := [_, _, _, _]) hw2
 simp only [List.cons_append, List.nil_append] at hw3
 try clear hw2
 have hw4 := St.frontL (l := [_, _, _, _]) hw3
 simp only [List.cons_append, List.nil_append] at hw4
 try clear hw3
 have hw5 := St.frontL (l := [_, _, _, _]) hw4
 simp only [List.cons_append, List.nil_append] at hw5
 try clear hw4
 have hw6 := St.frontL (l := [_, _, _, _]) hw5
 simp only [List.cons_append, List.nil_append] at hw6
 try clear hw5
 refine l_callv rfl rfl rfl Try.func47 rfl rfl (.cons rfl .nil) (doG b i X hwf m hm hmay c w1.drew (St.rows (τ := gW b X) hw6)) ?_
 rintro _ w7 ⟨Y, rfl, ⟨hY1, hY2, hYv, hYh⟩, hX2⟩
 have hw7 := hX2 _ _ _ _ hw6
 simp only [gW, List.cons_append, List.nil_append] at hw7
 rw [hYh, hYv] at hw7
 try clear hX hw6
 refine l_nil ?_
 refine e_any (⟨⟨_, hw7.ok mem0, by first | rfl | exact congrArg some hYv⟩, Own.ik (handV_rows _) (hw7.ok mem1), hw7.ok mem4⟩) ?_
 refine a_done (by kernel_rfl) ?_
 refine e_then ?_
 refine c_keep [0, 3] (.cons rfl (.cons rfl .nil)) ?_
 have hw8 := hw7.drewn
 try clear hw7
 refine c_any (n := 13) [false, false, false, false, false, false, false, false, false, false, false, false, false] (fun wS => (∃ cs, (As.blk b 66 cs).ok wS ∧ cs[0]? = some X.vh) ∧ (As.blk b0_0 47 [.int .i64 (i : Int), .int .i64 c]).ok wS) (by kernel_rfl) rfl rfl ?_
 apply a_take (L' := [true, false, false, false, false, false, false, false, false, false, false, false, false]) 0 rfl (by kernel_rfl) (by kernel_rfl) (by kernel_rfl) rfl rfl rfl rfl rfl (⟨⟨_, hw8.ok mem0, by first | rfl | exact congrArg some hYv⟩, hw8.ok mem4⟩)
 ·intro wS sS
  refine l_move rfl rfl rfl (l_nil ?_)
  exact e_got rfl
 apply a_take (L' := [true, true, false, false, false, false, false, false, false, false, false, false, false]) 1 rfl (by kernel_rfl) (by kernel_rfl) (by kernel_rfl) rfl rfl rfl rfl rfl (⟨⟨_, hw8.ok mem0, by first | rfl | exact congrArg some hYv⟩, hw8.ok mem4⟩)
 ·intro wS sS
  refine l_field fo47_0 rfl rfl rfl (l_nil ?_)
  exact e_got rfl
 apply a_take (L' := [true, true, true, false, false, false, false, false, false, false, false, false, false]) 2 rfl (by kernel_rfl) (by kernel_rfl) (by kernel_rfl) rfl rfl rfl rfl rfl (⟨⟨_, hw8.ok mem0, by first | rfl | exact congrArg some hYv⟩, hw8.ok mem4⟩)
 ·intro wS sS
  refine l_load_blk (blk_st sS.2) mem0 rfl rfl Try.underlying3 rfl rfl rfl ?_
  refine l_nil ?_
  exact e_got rfl
 apply a_take (L' := [true, true, true, true, false, false, false, false, false, false, false, false, false]) 3 rfl (by kernel_rfl) (by kernel_rfl) (by kernel_rfl) rfl rfl rfl rfl rfl (⟨⟨_, hw8.ok mem0, by first | rfl | exact congrArg some hYv⟩, hw8.ok mem4⟩)
 ·intro wS sS
  refine l_add rfl rfl rfl rfl (w_i64 (by omega)) ?_
  refine l_nil ?_
  exact e_got rfl
 apply a_take (L' := [true, true, true, true, true, false, false, false, false, false, false, false, false]) 4 rfl (by kernel_rfl) (by kernel_rfl) (by kernel_rfl) rfl rfl rfl rfl rfl (⟨⟨_, hw8.ok mem0, by first | rfl | exact congrArg some hYv⟩, hw8.ok mem4⟩)
 ·intro wS sS
  refine l_move rfl rfl rfl (l_nil ?_)
  exact e_got rfl
 refine a_nil (L' := [true, true, true, true, true, true, false, false, false, false, false, false, false]) 5 rfl (by kernel_rfl) (by kernel_rfl) (by kernel_rfl) rfl rfl rfl (⟨⟨_, hw8.ok mem0, by first | rfl | exact congrArg some hYv⟩, hw8.ok mem4⟩) rfl ?_
 apply a_take (L' := [true, true, true, true, true, true, true, false, false, false, false, false, false]) 6 rfl (by kernel_rfl) (by kernel_rfl) (by kernel_rfl) rfl rfl rfl rfl rfl (⟨⟨_, hw8.ok mem0, by first | rfl | exact congrArg some hYv⟩, hw8.ok mem4⟩)
 ·intro wS sS
  refine l_field fo59_0 rfl rfl rfl (l_nil ?_)
  exact e_got rfl
 apply a_take (L' := [true, true, true, true, true, true, true, true, false, false, false, false, false]) 7 rfl (by kernel_rfl) (by kernel_rfl) (by kernel_rfl) rfl rfl rfl rfl rfl (⟨⟨_, hw8.ok mem0, by first | rfl | exact congrArg some hYv⟩, hw8.ok mem4⟩)
 ·intro wS sS
  obtain ⟨cs, hcs, hc0⟩ := sS.1
  refine l_load_blk (blk_st hcs) mem0 rfl rfl Try.underlying57 rfl rfl hc0 ?_
  refine l_nil ?_
  exact e_got rfl
 refine a_one (L' := [true, true, true, true, true, true, true, true, true, false, false, false, false]) 8 (by kernel_rfl) rfl rfl ?_
 refine k_len rfl rfl Try.underlying57 rfl (Own.ik (handV_rows _) (hw8.ok mem1)) ?_
 refine l_nil ?_
 refine e_any (⟨⟨_, hw8.ok mem0, by first | rfl | exact congrArg some hYv⟩, hw8.ok mem4⟩) ?_
 apply a_take (L' := [true, true, true, true, true, true, true, true, true, true, false, false, false]) 9 rfl (by kernel_rfl) (by kernel_rfl) (by kernel_rfl) rfl rfl rfl rfl rfl (⟨⟨_, hw8.ok mem0, by first | rfl | exact congrArg some hYv⟩, hw8.ok mem4⟩)
 ·intro wS sS
  refine l_rem rfl rfl rfl rfl (by omega) (r_pos (by omega)) ?_
  refine l_nil ?_
  exact e_got rfl
 refine a_nil (L' := [true, true, true, true, true, true, true, true, true, true, true, false, false]) 10 rfl (by kernel_rfl) (by kernel_rfl) (by kernel_rfl) rfl rfl rfl (⟨⟨_, hw8.ok mem0, by first | rfl | exact congrArg some hYv⟩, hw8.ok mem4⟩) rfl ?_
 apply a_take (L' := [true, true, true, true, true, true, true, true, true, true, true, true, false]) 11 rfl (by kernel_rfl) (by kernel_rfl) (by kernel_rfl) rfl rfl rfl rfl rfl (⟨⟨_, hw8.ok mem0, by first | rfl | exact congrArg some hYv⟩, hw8.ok mem4⟩)
 ·intro wS sS
  refine l_field fo59_1 rfl rfl rfl (l_nil ?_)
  exact e_got rfl
 refine a_one (L' := [true, true, true, true, true, true, true, true, true, true, true, true, true]) 12 (by kernel_rfl) rfl rfl ?_
 refine l_turn (s := 25) (v' := .int .i64 (((i + 1) % X.hs.length : Nat) : Int)) rfl (congrArg (Value.int .i64) (by rw [hmal]; norm_cast)) ?_
 refine l_store_blk hw8 .head (gC_setFr Y ((i + 1) % X.hs.length) rfl) rfl tz3 rfl rfl rfl (fun w9 hw9 => ?_)
 refine l_nil ?_
 refine e_any (⟨⟨_, hw9.ok mem0, by first | rfl | exact congrArg some hYv⟩, hw9.ok mem4⟩) ?_
 refine a_done (by kernel_rfl) ?_
 try dsimp only
 refine e_done0 Try.results54 ?_
 refine ⟨_, rfl, ?_⟩
 have hw10 := St.front3 hw9
 try clear hw9
 have hw11 := St.front3 hw10
 try clear hw10
 have hw12 := St.front3 hw11
 try clear hw11
 have hw13 := St.front3 hw12
 try clear hw12
 have hw14 := St.del (.tail (.tail (.tail (.tail .head)))) hw13
 try clear hw13
 refine ⟨{ Y with fr := (i + 1) % X.hs.length }, rfl, ?_, St.transS (hw14.cast ?_)⟩
 ·have e := stepG_eq (G := X.abs) (i := i) (by simpa [Gm.abs] using hi)
  show GW.mk Y.abs.hs Y.abs.sg ((i + 1) % X.hs.length) = _
  rw [← hY1, ← hY2, show X.hs.length = X.abs.hs.length by simp [Gm.abs], ← e.1]
 ·show [_, As.rk _ 3 X.vh (X.hs.map handV), _, _] = [_, As.rk _ 3 Y.vh (Y.hs.map handV), _, _]
  rw [hYh, hYv]
  rfl
theorem HandsD (b : Nat) (X : Gm) (w : World) (hGF : GF b X w) :
  CallsV P 40 [ptr b] w fun r w' => r = .int .i64 (X.hs.length : Int) ∧ w = w' := by
 refine enterW Try.func40 rfl Try.ntmps40 rfl ?_
 refine c_seq (c_region (l_assign rfl rfl rfl (l_nil (e_then ?_))))
 refine c_keep [0] (.cons rfl .nil) ?_
 refine c_seq (c_region (l_move rfl rfl rfl (l_nilCheck rfl rfl rfl (l_field fo59_0 rfl rfl rfl ?_))))
 refine l_load_blk (blk_st hGF.hb) mem0 rfl rfl Try.underlying57 rfl rfl (rfl) ?_
 refine k_len rfl rfl Try.underlying57 rfl hGF.hh ?_
 refine l_assign rfl rfl rfl (l_nil (e_then ?_))
 refine c_keep [2] (.cons rfl .nil) ?_
 refine c_ret ?_
 refine e_done1 Try.results40 rfl ?_
 refine ⟨_, rfl, ?_⟩
 exact ⟨by rw [List.length_map], rfl⟩
theorem HandD (b : Nat) (X : Gm) (hwf : Wf X.abs) (i : Int) (w : World) (hGF : GF b X w) :
  CallsV P 37 [ptr b, .int .i64 i] w fun r w' => r = handVal (handF X.abs i) ∧ Grow w w' [] := by
 refine enterW Try.func37 rfl Try.ntmps37 rfl ?_
 have hw0 := St.start w
 have hn16 : X.hs.length ≤ 16 := by simpa [Gm.abs] using hwf.n16
 have hfr16 : X.fr ≤ 16 := hwf.fr
 refine c_seq (c_region ?_)
 refine l_alloc hw0 ta41 rfl rfl (fun b0_0 w1 hw1 => ?_)
 try clear hw0
 refine l_nil (e_then (c_seq (c_seq (c_region (l_move rfl rfl rfl ?_)))))
 refine l_lss rfl rfl rfl rfl ?_
 refine l_move rfl rfl rfl ?_
 apply l_or 7 [0, 1, 4] rfl rfl (.cons rfl (.cons rfl (.cons rfl (.cons rfl .nil)))) rfl rfl (fun _ => rfl) rfl rfl rfl
 ·intro hg1_3
  refine l_move rfl rfl rfl (l_move rfl rfl rfl (l_nilCheck rfl rfl rfl (l_field fo59_0 rfl rfl rfl ?_)))
  refine l_load_blk (blk_st (hGF.arg hw1).hb) mem0 rfl rfl Try.underlying57 rfl rfl (rfl) ?_
  refine k_len rfl rfl Try.underlying57 rfl (hGF.arg hw1).hh ?_
  refine l_turn (s := 13) (v' := .int .i64 (X.hs.length : Int)) rfl (by rw [List.length_map]) ?_
  refine l_geq rfl rfl rfl rfl ?_
  refine l_nil ?_
  exact e_stays rfl (.cons rfl (congrArg Value.bool (decide_eq_false hg1_3).symm) (.cons rfl rfl (.cons rfl rfl (.cons rfl rfl .nil))))
  all_goals infer_instance
 refine l_nil (e_then ?_)
 refine c_keep [0, 1, 4, 15] (.cons rfl (.cons rfl (.cons rfl (.cons rfl .nil)))) ?_
 first | refine c_cond rfl (fun hc0 => ?_) (fun hc0 => ?_) | refine c_condb rfl (fun hc0 => ?_) (fun hc0 => ?_)
 ·skip
  refine c_seq (c_region ?_)
  refine l_buildS rfl rfl pl41 ta41 .nil ?_
  refine l_store_blks hw1 .head (.zero (.zero (.zero .nil))) rfl tz41 rfl rfl (by first | (simp [Value.oneCell']; done) | (intro u hu; simp only [List.mem_cons, List.not_mem_nil, or_false] at hu; rcases hu with rfl | rfl | rfl <;> first | rfl | assumption)) (fun w2 hw2 => ?_)
  try clear hw1
  refine l_nil (e_then ?_)
  refine c_keep [4] (.cons rfl .nil) ?_
  refine c_ret ?_
  refine e_then_ret ?_
  refine e_doneC Try.results37 (.cell rfl (load_agg_run hw2 mem0 Try.underlying41 rfl tz41 (.take (.take (.take .nil)))) .nil) ?_
  refine ⟨_, rfl, ?_⟩
  have hw3 := St.del .head hw2
  try clear hw2
  refine ⟨?_, hw3.grows⟩
  have e : handF X.abs i = (0, 0, 0) := by
   unfold handF
   split
   ·rename_i h
    rw [List.getElem?_eq_none (by simp only [Gm.abs, List.length_map]; omega)]
   ·rfl
  rw [e]
  all_goals rfl
 ·skip
  refine c_skip (e_then ?_)
  refine c_keep [0, 1, 4] (.cons rfl (.cons rfl (.cons rfl .nil))) ?_
  refine c_seq (c_region ?_)
  have hin : 0 ≤ i ∧ i < X.hs.length := by simp at hc0; omega
  obtain ⟨m, hm⟩ : ∃ m, X.hs[i.toNat]? = some m := ⟨_, List.getElem?_eq_getElem (by omega)⟩
  have hrow : (X.hs.map handV)[i.toNat]? = some (handV m) := by rw [List.getElem?_map, hm]; rfl
  have hil := (List.getElem?_eq_some_iff.1 hm).1
  have hmal : (X.hs.map handV).length = X.hs.length := List.length_map _
  obtain ⟨Ah, ch, hvh⟩ : ∃ A c, X.vh = .slice (some A) (X.hs.map handV).length c := by
   obtain ⟨_, A, c, e, _, hs⟩ := (hGF.arg hw1).hh
   obtain ⟨ad, rfl⟩ := hs.some_ (by rw [(handV_rows _).len]; omega)
   exact ⟨ad, c, e⟩
  refine l_move rfl rfl rfl (l_nilCheck rfl rfl rfl (l_field fo59_0 rfl rfl rfl ?_))
  refine l_load_blk (blk_st (hGF.arg hw1).hb) mem0 rfl rfl Try.underlying57 rfl rfl (rfl) ?_
  refine l_move rfl rfl rfl ?_
  refine l_turn (s := 21) (v' := .int .i64 ((i.toNat : Nat) : Int)) rfl (congrArg (Value.int .i64) (by omega)) ?_
  refine k_addrx (j := i.toNat) rfl rfl Try.underlying57 tz73 (by decide) rfl rfl (hGF.arg hw1).hh hvh (by first | rfl | omega) (by omega) ?_
  refine k_field fo73_2 rfl rfl rfl ?_
  refine k_load1 (j := i.toNat) (o := 2) (r := handV m) rfl rfl Try.underlying71 rfl rfl hvh (hGF.arg hw1).hh hrow rfl ?_
  refine l_callv rfl rfl rfl Try.func51 rfl rfl .nil (atCG b i.toNat X hwf m hm w1 (hGF.arg hw1)) ?_
  rintro _ w4 ⟨rfl, hG⟩
  have hw4 := hG _ _ _ _ hw1
  try clear hG hw1
  simp only [List.cons_append, List.nil_append] at hw4
  refine l_store_blks hw4 .head (.zero (.zero (.zero .nil))) rfl tz41 rfl rfl (by first | (simp [Value.oneCell']; done) | (intro u hu; simp only [List.mem_cons, List.not_mem_nil, or_false] at hu; rcases hu with rfl | rfl | rfl <;> first | rfl | assumption)) (fun w5 hw5 => ?_)
  try clear hw4
  refine l_nil (e_then ?_)
  refine c_keep [4] (.cons rfl .nil) ?_
  refine c_ret ?_
  refine e_doneC Try.results37 (.cell rfl (load_agg_run hw5 mem0 Try.underlying41 rfl tz41 (.take (.take (.take .nil)))) .nil) ?_
  refine ⟨_, rfl, ?_⟩
  have hw6 := St.del .head hw5
  try clear hw5
  refine ⟨?_, hw6.grows⟩
  have e : handF X.abs i = (m.h.line, (m.h.nx : Int), if m.h.line = 2 ∨ m.h.line = 3 then wantH m.h else -1) := by
   unfold handF
   rw [if_pos hin.1, abs_hs hm]
  rw [e]
  all_goals rfl
theorem OverD (b : Nat) (X : Gm) (hwf : Wf X.abs) (w : World) (hGF : GF b X w) :
  CallsV P 39 [ptr b, .int .i64 0, .int .i64 (X.hs.length : Int)] w fun r w' => r = .bool (overG X.abs) ∧ Grow w w' [] := by
 refine enterW Try.func39 rfl Try.ntmps39 rfl ?_
 have hw0 := St.start w
 have hn16 : X.hs.length ≤ 16 := by simpa [Gm.abs] using hwf.n16
 have hfr16 : X.fr ≤ 16 := hwf.fr
 refine c_seq (c_region (l_assign rfl rfl rfl (l_nil (e_then ?_))))
 refine c_keep [0, 1, 2] (.cons rfl (.cons rfl (.cons rfl .nil))) ?_
 refine c_seq (c_seq (c_region (l_move rfl rfl rfl (l_nilCheck rfl rfl rfl (l_field fo59_0 rfl rfl rfl ?_)))))
 refine l_load_blk (blk_st (hGF.arg hw0).hb) mem0 rfl rfl Try.underlying57 rfl rfl (rfl) ?_
 refine l_move rfl rfl rfl (l_move rfl rfl rfl ?_)
 obtain ⟨_, Av, cv, hvv, hcv, _⟩ := (hGF.arg hw0).hh
 refine l_slice (size := 3) (l := 0) (h := X.hs.length) (mm := cv) (A := Av) (m := (X.hs.map handV).length) (c := cv) rfl rfl Try.underlying57 tz73 (by show some X.vh = _; rw [hvv]) rfl rfl rfl rfl rfl rfl (by simp) (by omega) (by rw [List.length_map] at hcv; omega) (Nat.le_refl _) ?_
 refine l_turn (s := 15) (v' := X.vh) rfl (by rw [cutA0, hvv, List.length_map]; rfl) ?_
 refine k_len rfl rfl Try.underlying57 rfl (hGF.arg hw0).hh ?_
 refine l_turn (s := 16) (v' := .int .i64 (X.hs.length : Int)) rfl (by rw [List.length_map]) ?_
 refine l_move rfl rfl rfl (l_nil (e_then ?_))
 refine c_keep [15, 16, 17] (.cons rfl (.cons rfl (.cons rfl .nil))) ?_
 refine c_block ?_
 refine c_loopk (ι := Nat) (fun (i : Nat) => X.hs.length - i) (fun (i : Nat) (w' : World) => St w w.heap.size None' ([]) w' ∧ i ≤ X.hs.length ∧ ∀ (j : Nat) m, j < i → X.hs[j]? = some m → m.h.line = 4) (fun (i : Nat) => [(17, .int .i64 (i : Int))]) [15, 16] (0) ?_ (.cons rfl (.cons rfl .nil)) ?_ ?_
 ·exact ⟨hw0, by omega, fun j m h => by omega⟩
 ·exact (.cons rfl (by first | rfl | (refine congrArg (Value.int _) ?_; omega)) .nil)
 rintro i w1 ⟨hw1, hi, hno⟩
 show RunC P _ _ _ (_ :: _) _
 refine c_seq (c_region ?_)
 refine l_lss rfl rfl rfl rfl ?_
 refine l_nil (e_then (c_seq ?_))
 first | refine c_cond rfl (fun hc0 => ?_) (fun hc0 => ?_) | refine c_condb rfl (fun hc0 => ?_) (fun hc0 => ?_)
 ·skip
  refine c_skip (e_then ?_)
  refine c_keep [15, 16, 17] (.cons rfl (.cons rfl (.cons rfl .nil))) ?_
  refine c_seq (c_block (c_seq (c_region ?_)))
  obtain ⟨m, hm⟩ : ∃ m, X.hs[i]? = some m := ⟨_, List.getElem?_eq_getElem (by omega)⟩
  have hrow : (X.hs.map handV)[i]? = some (handV m) := by rw [List.getElem?_map, hm]; rfl
  have hil := (List.getElem?_eq_some_iff.1 hm).1
  have hmal : (X.hs.map handV).length = X.hs.length := List.length_map _
  obtain ⟨Ah, ch, hvh⟩ : ∃ A c, X.vh = .slice (some A) (X.hs.map handV).length c := by
   obtain ⟨_, A, c, e, _, hs⟩ := (hGF.arg hw1).hh
   obtain ⟨ad, rfl⟩ := hs.some_ (by rw [(handV_rows _).len]; omega)
   exact ⟨ad, c, e⟩
  refine k_addrx (j := i) rfl rfl Try.underlying57 tz73 (by decide) rfl rfl (hGF.arg hw1).hh hvh (by first | rfl | omega) (by omega) ?_
  refine k_load (j := i) rfl rfl Try.underlying73 rfl tz73 rfl hvh (hGF.arg hw1).hh hrow ?_
  refine l_alloc hw1 ta73 rfl rfl (fun b3_2 w2 hw2 => ?_)
  try clear hw1
  refine l_store_blks hw2 .head (.zero (.zero (.zero .nil))) rfl tz73 rfl rfl (by first | (simp [Value.oneCell']; done) | (intro u hu; simp only [List.mem_cons, List.not_mem_nil, or_false] at hu; rcases hu with rfl | rfl | rfl <;> first | rfl | assumption)) (fun w3 hw3 => ?_)
  try clear hw2
  refine l_nil (e_then ?_)
  refine c_keep [8, 15, 16, 17] (.cons rfl (.cons rfl (.cons rfl (.cons rfl .nil)))) ?_
  refine c_seq (c_region (l_field fo73_2 rfl rfl rfl ?_))
  refine l_load_blk hw3 mem0 rfl rfl Try.underlying71 rfl rfl rfl ?_
  refine l_callv rfl rfl rfl Try.func51 rfl rfl .nil (atCG b i X hwf m hm w3 (hGF.arg hw3)) ?_
  rintro _ w4 ⟨rfl, hG⟩
  have hw4 := hG _ _ _ _ hw3
  try clear hG hw3
  simp only [List.cons_append, List.nil_append] at hw4
  refine l_fieldv (show fieldTy P 41 0 = some (0, true) by kernel_rfl) rfl rfl rfl rfl ?_
  refine l_neq rfl rfl rfl rfl ?_
  refine l_nil (e_then ?_)
  refine c_keep [15, 16, 17, 25] (.cons rfl (.cons rfl (.cons rfl (.cons rfl .nil)))) ?_
  first | refine c_cond rfl (fun hc1 => ?_) (fun hc1 => ?_) | refine c_condb rfl (fun hc1 => ?_) (fun hc1 => ?_)
  ·skip
   refine c_seq (c_region (l_assign rfl rfl rfl (l_nil (e_then ?_))))
   refine c_keep [6] (.cons rfl .nil) ?_
   refine c_ret ?_
   refine e_blk_ret ?_
   refine e_then_ret ?_
   refine e_then_ret ?_
   refine e_blk_ret ?_
   refine e_then_ret ?_
   refine e_done1 Try.results39 rfl ?_
   refine ⟨_, rfl, ?_⟩
   have hw5 := St.del .head hw4
   try clear hw4
   refine ⟨congrArg Value.bool ?_, hw5.grows⟩
   refine Eq.symm (List.all_eq_false.2 ⟨m.h, ?_, by simpa using hc1⟩)
   exact List.mem_of_getElem? (abs_hs hm)
  ·skip
   refine c_skip ?_
   refine e_blk ?_
   refine e_then ?_
   refine c_keep [15, 16, 17] (.cons rfl (.cons rfl (.cons rfl .nil))) ?_
   refine c_region ?_
   refine l_add rfl rfl rfl rfl (w_i64 (by omega)) ?_
   refine l_move rfl rfl rfl (l_nil ?_)
   have hw6 := St.del .head hw4
   try clear hw4
   refine e_againk (i := (i)) (i + 1) ?_ ?_ (.cons rfl (.cons rfl .nil)) ?_
   ·first | omega | (simp; omega)
   ·exact ⟨hw6, by omega, fun j m2 h hm2 => by
     by_cases e : j = i
     ·subst e
      rw [hm] at hm2
      cases hm2
      omega
     ·exact hno j m2 (by omega) hm2⟩
   ·exact (.cons rfl (by first | rfl | (refine congrArg (Value.int _) ?_; omega)) .nil)
 ·skip
  refine c_exit ?_
  refine e_then_exit ?_
  refine e_then_exit ?_
  refine e_blk_exit ?_
  refine e_then ?_
  refine c_keep [] .nil ?_
  refine c_seq (c_region (l_assign rfl rfl rfl (l_nil (e_then ?_))))
  refine c_ret ?_
  refine e_done1 Try.results39 rfl ?_
  refine ⟨_, rfl, ?_⟩
  refine ⟨congrArg Value.bool ?_, hw1.grows⟩
  refine Eq.symm (List.all_eq_true.2 fun h hh => ?_)
  obtain ⟨m2, hm2, rfl⟩ := List.mem_map.1 (show h ∈ X.hs.map (·.h) from hh)
  obtain ⟨j, hj, rfl⟩ := List.mem_iff_getElem.1 hm2
  simpa using hno j _ (by omega) (List.getElem?_eq_getElem hj)
theorem nextD (b : Nat) (X : Gm) (hwf : Wf X.abs) (w : World) (hGF : GF b X w) :
  CallsV P 55 [ptr b] w fun r w' => r = .tuple #[moveV (nextG X.abs), .bool (nextG X.abs).isSome] ∧ Grow w w' [] := by
 refine enterW Try.func55 rfl Try.ntmps55 rfl ?_
 have hw0 := St.start w
 have hn16 : X.hs.length ≤ 16 := by simpa [Gm.abs] using hwf.n16
 have hfr16 : X.fr ≤ 16 := hwf.fr
 refine c_seq (c_region ?_)
 refine l_alloc hw0 ta47 rfl rfl (fun b0_0 w1 hw1 => ?_)
 try clear hw0
 refine l_assign rfl rfl rfl (l_nil (e_then ?_))
 refine c_keep [0, 2] (.cons rfl (.cons rfl .nil)) ?_
 refine c_seq (c_seq (c_region (l_move rfl rfl rfl (l_nilCheck rfl rfl rfl (l_field fo59_0 rfl rfl rfl ?_)))))
 refine l_load_blk (blk_st (hGF.arg hw1).hb) mem0 rfl rfl Try.underlying57 rfl rfl (rfl) ?_
 refine k_len rfl rfl Try.underlying57 rfl (hGF.arg hw1).hh ?_
 refine l_turn (s := 11) (v' := .int .i64 (X.hs.length : Int)) rfl (by rw [List.length_map]) ?_
 refine l_move rfl rfl rfl (l_nil (e_then ?_))
 refine c_keep [0, 2, 11, 12] (.cons rfl (.cons rfl (.cons rfl (.cons rfl .nil)))) ?_
 refine c_block ?_
 refine c_loopk (ι := Nat) (fun (i : Nat) => X.hs.length - i) (fun (i : Nat) (w' : World) => St w w.heap.size None' ([As.blk b0_0 47 [.int .i64 0, .int .i64 0]]) w' ∧ i ≤ X.hs.length ∧ ∀ j, j < i → mayG X.abs ((X.fr + j) % X.hs.length) = false) (fun (i : Nat) => [(12, .int .i64 (i : Int))]) [0, 2, 11] (0) ?_ (.cons rfl (.cons rfl (.cons rfl .nil))) ?_ ?_
 ·exact ⟨hw1, by omega, fun j h => by omega⟩
 ·exact (.cons rfl (by first | rfl | (refine congrArg (Value.int _) ?_; omega)) .nil)
 rintro i w2 ⟨hw2, hi, hno⟩
 show RunC P _ _ _ (_ :: _) _
 refine c_seq (c_region ?_)
 refine l_lss rfl rfl rfl rfl ?_
 refine l_nil (e_then (c_seq ?_))
 first | refine c_cond rfl (fun hc0 => ?_) (fun hc0 => ?_) | refine c_condb rfl (fun hc0 => ?_) (fun hc0 => ?_)
 ·skip
  refine c_skip (e_then ?_)
  refine c_keep [0, 2, 11, 12] (.cons rfl (.cons rfl (.cons rfl (.cons rfl .nil)))) ?_
  refine c_seq (c_block (c_seq (c_region (l_move rfl rfl rfl (l_assign rfl rfl rfl ?_)))))
  refine l_nil (e_then ?_)
  refine c_keep [0, 2, 4, 11, 12] (.cons rfl (.cons rfl (.cons rfl (.cons rfl (.cons rfl .nil))))) ?_
  refine c_seq ?_
  have hw3 := hw2.drewn
  try clear hw2
  refine c_any (n := 13) [false, false, false, false, false, false, false, false, false, false, false, false, false] (fun wS => (As.blk b 66 (gC X)).ok wS ∧ True) (by kernel_rfl) rfl rfl ?_
  apply a_take (L' := [true, false, false, false, false, false, false, false, false, false, false, false, false]) 0 rfl (by kernel_rfl) (by kernel_rfl) (by kernel_rfl) rfl rfl rfl rfl rfl (⟨(hGF.arg hw3).hb, trivial⟩)
  ·intro wS sS
   refine l_move rfl rfl rfl (l_nil ?_)
   exact e_got rfl
  refine a_nil (L' := [true, true, false, false, false, false, false, false, false, false, false, false, false]) 1 rfl (by kernel_rfl) (by kernel_rfl) (by kernel_rfl) rfl rfl rfl (⟨(hGF.arg hw3).hb, trivial⟩) rfl ?_
  apply a_take (L' := [true, true, true, false, false, false, false, false, false, false, false, false, false]) 2 rfl (by kernel_rfl) (by kernel_rfl) (by kernel_rfl) rfl rfl rfl rfl rfl (⟨(hGF.arg hw3).hb, trivial⟩)
  ·intro wS sS
   refine l_field fo59_1 rfl rfl rfl (l_nil ?_)
   exact e_got rfl
  apply a_take (L' := [true, true, true, true, false, false, false, false, false, false, false, false, false]) 3 rfl (by kernel_rfl) (by kernel_rfl) (by kernel_rfl) rfl rfl rfl rfl rfl (⟨(hGF.arg hw3).hb, trivial⟩)
  ·intro wS sS
   refine l_load_blk (blk_st sS.1) mem0 rfl rfl Try.underlying3 rfl rfl (rfl) ?_
   refine l_nil ?_
   exact e_got rfl
  apply a_take (L' := [true, true, true, true, true, false, false, false, false, false, false, false, false]) 4 rfl (by kernel_rfl) (by kernel_rfl) (by kernel_rfl) rfl rfl rfl rfl rfl (⟨(hGF.arg hw3).hb, trivial⟩)
  ·intro wS sS
   refine l_move rfl rfl rfl (l_nil ?_)
   exact e_got rfl
  apply a_take (L' := [true, true, true, true, true, true, false, false, false, false, false, false, false]) 5 rfl (by kernel_rfl) (by kernel_rfl) (by kernel_rfl) rfl rfl rfl rfl rfl (⟨(hGF.arg hw3).hb, trivial⟩)
  ·intro wS sS
   refine l_add rfl rfl rfl rfl (w_i64 (by omega)) ?_
   refine l_nil ?_
   exact e_got rfl
  apply a_take (L' := [true, true, true, true, true, true, true, false, false, false, false, false, false]) 6 rfl (by kernel_rfl) (by kernel_rfl) (by kernel_rfl) rfl rfl rfl rfl rfl (⟨(hGF.arg hw3).hb, trivial⟩)
  ·intro wS sS
   refine l_move rfl rfl rfl (l_nil ?_)
   exact e_got rfl
  refine a_nil (L' := [true, true, true, true, true, true, true, true, false, false, false, false, false]) 7 rfl (by kernel_rfl) (by kernel_rfl) (by kernel_rfl) rfl rfl rfl (⟨(hGF.arg hw3).hb, trivial⟩) rfl ?_
  apply a_take (L' := [true, true, true, true, true, true, true, true, true, false, false, false, false]) 8 rfl (by kernel_rfl) (by kernel_rfl) (by kernel_rfl) rfl rfl rfl rfl rfl (⟨(hGF.arg hw3).hb, trivial⟩)
  ·intro wS sS
   refine l_field fo59_0 rfl rfl rfl (l_nil ?_)
   exact e_got rfl
  apply a_take (L' := [true, true, true, true, true, true, true, true, true, true, false, false, false]) 9 rfl (by kernel_rfl) (by kernel_rfl) (by kernel_rfl) rfl rfl rfl rfl rfl (⟨(hGF.arg hw3).hb, trivial⟩)
  ·intro wS sS
   refine l_load_blk (blk_st sS.1) mem0 rfl rfl Try.underlying57 rfl rfl (rfl) ?_
   refine l_nil ?_
   exact e_got rfl
  refine a_one (L' := [true, true, true, true, true, true, true, true, true, true, true, false, false]) 10 (by kernel_rfl) rfl rfl ?_
  refine k_len rfl rfl Try.underlying57 rfl (hGF.arg hw3).hh ?_
  refine l_turn (s := 25) (v' := .int .i64 (X.hs.length : Int)) rfl (by rw [List.length_map]) ?_
  refine l_nil ?_
  refine e_any (⟨(hGF.arg hw3).hb, trivial⟩) ?_
  apply a_take (L' := [true, true, true, true, true, true, true, true, true, true, true, true, false]) 11 rfl (by kernel_rfl) (by kernel_rfl) (by kernel_rfl) rfl rfl rfl rfl rfl (⟨(hGF.arg hw3).hb, trivial⟩)
  ·intro wS sS
   refine l_rem rfl rfl rfl rfl (by omega) (r_pos (by omega)) ?_
   refine l_nil ?_
   exact e_got rfl
  apply a_take (L' := [true, true, true, true, true, true, true, true, true, true, true, true, true]) 12 rfl (by kernel_rfl) (by kernel_rfl) (by kernel_rfl) rfl rfl rfl rfl rfl (⟨(hGF.arg hw3).hb, trivial⟩)
  ·intro wS sS
   refine l_assign rfl rfl rfl (l_nil ?_)
   exact e_got rfl
  refine a_done (by kernel_rfl) ?_
  refine e_then ?_
  refine c_keep [0, 2, 5, 11, 12] (.cons rfl (.cons rfl (.cons rfl (.cons rfl (.cons rfl .nil))))) ?_
  refine c_seq (c_region ?_)
  refine l_turn (s := 5) (v' := .int .i64 (((X.fr + i) % X.hs.length : Nat) : Int)) rfl (congrArg (Value.int .i64) (by norm_cast)) ?_
  have hlt : (X.fr + i) % X.hs.length < X.hs.length := Nat.mod_lt _ (by omega)
  obtain ⟨m, hm⟩ : ∃ m, X.hs[(X.fr + i) % X.hs.length]? = some m := ⟨_, List.getElem?_eq_getElem (by omega)⟩
  have hrow : (X.hs.map handV)[(X.fr + i) % X.hs.length]? = some (handV m) := by rw [List.getElem?_map, hm]; rfl
  have hil := (List.getElem?_eq_some_iff.1 hm).1
  have hmal : (X.hs.map handV).length = X.hs.length := List.length_map _
  obtain ⟨Ah, ch, hvh⟩ : ∃ A c, X.vh = .slice (some A) (X.hs.map handV).length c := by
   obtain ⟨_, A, c, e, _, hs⟩ := (hGF.arg hw3).hh
   obtain ⟨ad, rfl⟩ := hs.some_ (by rw [(handV_rows _).len]; omega)
   exact ⟨ad, c, e⟩
  refine l_move rfl rfl rfl (l_nil (e_then (c_block ?_)))
  refine c_loopk (ι := Nat) (fun (c : Nat) => 2 - c) (fun (c : Nat) (w' : World) => St w w.heap.size None' ([As.blk b0_0 47 [.int .i64 0, .int .i64 0]]) w' ∧ c ≤ 2 ∧ (0 < c → mayG X.abs ((X.fr + i) % X.hs.length) = false)) (fun (c : Nat) => [(27, .int .i64 (c : Int))]) [0, 2, 5, 11, 12] (0) ?_ (.cons rfl (.cons rfl (.cons rfl (.cons rfl (.cons rfl .nil))))) ?_ ?_
  ·exact ⟨hw3, by omega, fun h => by omega⟩
  ·exact (.cons rfl (by first | rfl | (refine congrArg (Value.int _) ?_; omega)) .nil)
  rintro c w4 ⟨hw4, hc, hnm⟩
  show RunC P _ _ _ (_ :: _) _
  refine c_seq (c_region ?_)
  refine l_lss rfl rfl rfl rfl ?_
  refine l_nil (e_then (c_seq ?_))
  first | refine c_cond rfl (fun hc1 => ?_) (fun hc1 => ?_) | refine c_condb rfl (fun hc1 => ?_) (fun hc1 => ?_)
  ·skip
   refine c_skip (e_then ?_)
   refine c_keep [0, 2, 5, 11, 12, 27] (.cons rfl (.cons rfl (.cons rfl (.cons rfl (.cons rfl (.cons rfl .nil)))))) ?_
   refine c_seq (c_block (c_seq (c_region (l_move rfl rfl rfl (l_assign rfl rfl rfl ?_)))))
   refine l_nil (e_then ?_)
   refine c_keep [0, 2, 5, 6, 11, 12, 27] (.cons rfl (.cons rfl (.cons rfl (.cons rfl (.cons rfl (.cons rfl (.cons rfl .nil))))))) ?_
   refine c_seq (c_region (l_move rfl rfl rfl (l_nilCheck rfl rfl rfl (l_field fo59_0 rfl rfl rfl ?_))))
   refine l_load_blk (blk_st (hGF.arg hw4).hb) mem0 rfl rfl Try.underlying57 rfl rfl (rfl) ?_
   refine l_move rfl rfl rfl ?_
   refine k_addrx (j := (X.fr + i) % X.hs.length) rfl rfl Try.underlying57 tz73 (by decide) rfl rfl (hGF.arg hw4).hh hvh (by first | rfl | omega) (by rw [hmal]; exact hlt) ?_
   refine k_field fo73_0 rfl rfl rfl ?_
   refine k_load1 (j := (X.fr + i) % X.hs.length) (o := 0) (r := handV m) rfl rfl Try.underlying45 rfl rfl hvh (hGF.arg hw4).hh hrow rfl ?_
   refine l_move rfl rfl rfl ?_
   refine l_callv rfl rfl rfl Try.func45 rfl rfl (.cons rfl .nil) (mayCG b ((X.fr + i) % X.hs.length) X hwf m hm c w4 (hGF.arg hw4)) ?_
   rintro _ w5 ⟨rfl, hG⟩
   have hw5 := hG _ _ _ _ hw4
   try clear hG hw4
   simp only [List.cons_append, List.nil_append] at hw5
   refine l_nil (e_then ?_)
   refine c_keep [0, 2, 5, 6, 11, 12, 27, 39] (.cons rfl (.cons rfl (.cons rfl (.cons rfl (.cons rfl (.cons rfl (.cons rfl (.cons rfl .nil)))))))) ?_
   first | refine c_cond rfl (fun hc2 => ?_) (fun hc2 => ?_) | refine c_condb rfl (fun hc2 => ?_) (fun hc2 => ?_)
   ·skip
    refine c_seq (c_region (l_move rfl rfl rfl (l_move rfl rfl rfl ?_)))
    refine l_buildS rfl rfl pl47 ta47 (.one rfl rfl (by first | rfl | assumption) .zero (.one rfl rfl (by first | rfl | assumption) (.succ .zero) .nil)) ?_
    refine l_store_blks hw5 .head (.zero (.zero .nil)) rfl tz47 rfl rfl (by first | (simp [Value.oneCell']; done) | (intro u hu; simp only [List.mem_cons, List.not_mem_nil, or_false] at hu; rcases hu with rfl | rfl <;> first | rfl | assumption)) (fun w6 hw6 => ?_)
    try clear hw5
    refine l_assign rfl rfl rfl (l_nil (e_then ?_))
    refine c_keep [2, 3] (.cons rfl (.cons rfl .nil)) ?_
    refine c_ret ?_
    refine e_blk_ret ?_
    refine e_then_ret ?_
    refine e_then_ret ?_
    refine e_blk_ret ?_
    refine e_blk_ret ?_
    refine e_then_ret ?_
    refine e_then_ret ?_
    refine e_blk_ret ?_
    refine e_then_ret ?_
    refine e_doneN Try.results55 (.cell rfl (load_agg_run hw6 mem0 Try.underlying47 rfl tz47 (.take (.take .nil))) (.tmp rfl .nil)) rfl ?_
    refine ⟨_, rfl, ?_⟩
    have hw7 := St.del .head hw6
    try clear hw6
    have hc2 : c = 0 ∧ mayG X.abs ((X.fr + i) % X.hs.length) = true := by simpa using hc2
    obtain ⟨rfl, hmy⟩ := hc2
    have e := next_some (G := X.abs) (i := i) (by simpa [Gm.abs] using (show i < X.hs.length by omega)) (by simpa [Gm.abs] using hmy) (by simpa [Gm.abs] using hno)
    rw [show X.abs.hs.length = X.hs.length by simp [Gm.abs]] at e
    refine ⟨?_, hw7.grows⟩
    rw [e]
    all_goals rfl
   ·skip
    refine c_skip ?_
    refine e_blk ?_
    refine e_then ?_
    refine c_keep [0, 2, 5, 11, 12, 27] (.cons rfl (.cons rfl (.cons rfl (.cons rfl (.cons rfl (.cons rfl .nil)))))) ?_
    refine c_region ?_
    refine l_add rfl rfl rfl rfl (w_i64 (by omega)) ?_
    refine l_move rfl rfl rfl (l_nil ?_)
    refine e_againk (i := (c)) (c + 1) ?_ ?_ (.cons rfl (.cons rfl (.cons rfl (.cons rfl (.cons rfl .nil))))) ?_
    ·first | omega | (simp; omega)
    ·exact ⟨hw5, by omega, fun _ => by
      by_cases e : c = 0
      ·subst e; simpa using hc2
      ·exact hnm (by omega)⟩
    ·exact (.cons rfl (by first | rfl | (refine congrArg (Value.int _) ?_; omega)) .nil)
  ·skip
   refine c_exit ?_
   refine e_then_exit ?_
   refine e_then_exit ?_
   refine e_blk_exit ?_
   refine e_blk ?_
   refine e_then ?_
   refine c_keep [0, 2, 11, 12] (.cons rfl (.cons rfl (.cons rfl (.cons rfl .nil)))) ?_
   refine c_region ?_
   refine l_add rfl rfl rfl rfl (w_i64 (by omega)) ?_
   refine l_move rfl rfl rfl (l_nil ?_)
   refine e_againk (i := (i)) (i + 1) ?_ ?_ (.cons rfl (.cons rfl (.cons rfl .nil))) ?_
   ·first | omega | (simp; omega)
   ·exact ⟨hw4, by omega, fun j h => by
     by_cases e : j = i
     ·subst e; exact hnm (by omega)
     ·exact hno j (by omega)⟩
   ·exact (.cons rfl (by first | rfl | (refine congrArg (Value.int _) ?_; omega)) .nil)
 ·skip
  refine c_exit ?_
  refine e_then_exit ?_
  refine e_then_exit ?_
  refine e_blk_exit ?_
  refine e_then ?_
  refine c_keep [2] (.cons rfl .nil) ?_
  refine c_seq (c_region ?_)
  refine l_buildS rfl rfl pl47 ta47 .nil ?_
  refine l_store_blks hw2 .head (.zero (.zero .nil)) rfl tz47 rfl rfl (by first | (simp [Value.oneCell']; done) | (intro u hu; simp only [List.mem_cons, List.not_mem_nil, or_false] at hu; rcases hu with rfl | rfl <;> first | rfl | assumption)) (fun w8 hw8 => ?_)
  try clear hw2
  refine l_assign rfl rfl rfl (l_nil (e_then ?_))
  refine c_keep [2, 3] (.cons rfl (.cons rfl .nil)) ?_
  refine c_ret ?_
  refine e_doneN Try.results55 (.cell rfl (load_agg_run hw8 mem0 Try.underlying47 rfl tz47 (.take (.take .nil))) (.tmp rfl .nil)) rfl ?_
  refine ⟨_, rfl, ?_⟩
  have hw9 := St.del .head hw8
  try clear hw8
  have e := next_none (G := X.abs) (fun j hj => by simpa [Gm.abs] using hno j (by simp [Gm.abs] at hj; omega))
  refine ⟨?_, hw9.grows⟩
  rw [e]
  all_goals rfl
theorem getDset_ {α : Type} {L : List α} {s : Nat} (hs : s < L.length) (x z : α) (t : Nat) : (L.set s x).getD t z = if t = s then x else L.getD t z := by
 simp only [List.getD_eq_getElem?_getD, List.getElem?_set]
 by_cases e : s = t
 ·subst e; simp [hs]
 ·rw [if_neg e, if_neg (fun h => e h.symm)]
theorem get_set {α : Type} {L : List α} {i : Nat} (hi : i < L.length) (x : α) (j : Nat) : (L.set i x)[j]? = if j = i then some x else L[j]? := by
 rw [List.getElem?_set]
 by_cases e : i = j
 ·subst e; simp [hi]
 ·rw [if_neg e, if_neg (fun h => e h.symm)]
inductive Mv (s : Int) (h : Hd) (y : Sg) : Hd → Sg → Prop
 | lay (hl : h.line = 2) : Mv s h y { h with line := if y.laid + 1 = segLen s then 3 else 2 } { y with laid := y.laid + 1 }
 | show (hl : h.line = 3) : Mv s h y { h with line := 1 } { y with done := true }
 | take (hl : h.line = 1) (hd : y.done = false) (hb : y.built = 0) : Mv s h y { h with line := 2, tk := s } { y with built := 1 }
 | read (hl : h.line = 1) (hd : y.done = true) : Mv s h y { h with nx := h.nx + 1, line := if h.nx + 1 = h.asks.length then 4 else 1 } y
theorem mv_of {s : Int} {h : Hd} {y : Sg} (hm : mayH h y = true) : Mv s h y (stepH s h y).1 (stepH s h y).2 := by
 unfold mayH at hm
 unfold stepH
 by_cases h2 : h.line = 2
 ·rw [if_pos h2]; exact .lay h2
 ·rw [if_neg h2]
  by_cases h3 : h.line = 3
  ·rw [if_pos h3]; exact .show h3
  ·rw [if_neg h3]
   have h1 : h.line = 1 := by
    by_cases h1 : h.line = 1
    ·exact h1
    ·rw [if_neg h1] at hm; simp [h2, h3] at hm
   rw [if_pos h1] at hm
   by_cases hd : y.done = false
   ·rw [if_pos hd]
    have hb : y.built = 0 := by simpa [hd] using hm
    have := Mv.take (s := s) h1 hd hb
    rw [hb]
    simpa using this
   ·rw [if_neg hd]; exact .read h1 (by simpa using hd)
theorem step_of {G : GW} {i : Nat} (hm : mayG G i = true) : ∃ h h' y', i < G.hs.length ∧ G.hs[i]? = some h ∧ Mv (wantH h) h (sgN G (wantN h)) h' y' ∧ stepG G i = ⟨G.hs.set i h', G.sg.set (wantN h) y', (i + 1) % G.hs.length⟩ := by
 unfold mayG at hm
 cases hi : G.hs[i]? with
 | none => rw [hi] at hm; cases hm
 | some h =>
  rw [hi] at hm
  refine ⟨h, _, _, (List.getElem?_eq_some_iff.1 hi).1, rfl, mv_of hm, ?_⟩
  unfold stepG
  rw [hi]
theorem Wf.step {G : GW} {i : Nat} (hw : Wf G) (hm : mayG G i = true) : Wf (stepG G i) := by
 obtain ⟨h, h', y', hi, hih, hv, e⟩ := step_of hm
 rw [e]
 have hb := want_bd h
 have ho := hw.hd i h hih
 have hsl : wantN h < G.sg.length := by rw [hw.sg]; exact hb.2
 have hys := hw.at hb.2
 have hok := hw.sok _ _ hys
 obtain ⟨s, hs⟩ : ∃ s, wantN h = s := ⟨_, rfl⟩
 obtain ⟨y, hy⟩ : ∃ y, sgN G (wantN h) = y := ⟨_, rfl⟩
 have hb2 := ho.b2
 have hb3 := ho.b3
 rw [hy] at hv hys hok hb2 hb3
 rw [hs] at hsl hys hok hy
 have hws : wantH h = (s : Int) := by rw [← hs]; exact hb.1
 rw [hws] at hv hb2 hb3
 have hsg : ∀ t, sgN ⟨G.hs.set i h', G.sg.set (wantN h) y', (i + 1) % G.hs.length⟩ t = if t = s then y' else sgN G t := fun t => by
  rw [hs]; exact getDset_ hsl y' _ t
 have hhs : ∀ j, (G.hs.set i h')[j]? = if j = i then some h' else G.hs[j]? := get_set hi h'
 have hn := hw.n16
 have hwn : ∀ k : Hd, wantN k = s → wantH k = (s : Int) := fun k hk => by rw [(want_bd k).1, hk]
 -- nobody else builds there
 have hno : ∀ j k, j ≠ i → G.hs[j]? = some k → (k.line = 2 ∨ k.line = 3) → wantN k = s → y' = y := fun j k hj hk hl hwk => by
  have hko := hw.hd j k hk
  have hk1 : (sgN G (wantN k)).built = 1 := by
   rcases hl with h2 | h3
   ·exact (hko.b2 h2).2.1
   ·exact (hko.b3 h3).1
  rw [hwk, hy] at hk1
  cases hv with
  | lay hl2 => exact absurd (hws.trans (hwn k hwk).symm) (hw.un i j h k (fun e => hj e.symm) hih hk (.inl hl2) hl)
  | «show» hl3 => exact absurd (hws.trans (hwn k hwk).symm) (hw.un i j h k (fun e => hj e.symm) hih hk (.inr hl3) hl)
  | take _ _ hb0 => omega
  | read _ _ => rfl
 have hdone : y.done = true → y'.done = true := fun hd => by
  cases hv with
  | lay hl2 => exact hd
  | «show» hl3 => rfl
  | take _ _ hb0 => exact hd
  | read _ _ => exact hd
 refine ⟨by simpa using hn, by simpa using hw.sg, ?_, fun j k hk => ?_, fun t z hz => ?_, fun j l k m hjl hk hm2 hl1 hl2 => ?_⟩
 ·have := Nat.mod_lt (i + 1) (show 0 < G.hs.length by omega)
  show (i + 1) % G.hs.length ≤ 16
  omega
 ·have hk' : (G.hs.set i h')[j]? = some k := hk
  rw [hhs] at hk'
  split at hk'
  ·-- the one who moved
   cases hk'
   cases hv with
   | lay hl =>
    obtain ⟨e1, e2, e3, e4⟩ := hb2 hl
    have hnx := ho.nx (by omega)
    refine ⟨ho.q, ho.al, ?_, fun _ => hnx, fun h4 => ?_, fun h2 => ?_, fun h3 => ?_, fun k hk => ?_⟩
    ·dsimp only; split <;> omega
    ·dsimp only at h4; split at h4 <;> omega
    ·dsimp only at h2
     split at h2
     ·omega
     ·rw [show wantN { h with line := if y.laid + 1 = segLen (s : Int) then 3 else 2 } = s from hs, hsg, if_pos rfl]
      exact ⟨e1.trans hws.symm, e2, e3, by rw [show wantH { h with line := if y.laid + 1 = segLen (s : Int) then 3 else 2 } = (s : Int) from hws]; dsimp only; omega⟩
    ·dsimp only at h3
     split at h3
     ·rw [show wantN { h with line := if y.laid + 1 = segLen (s : Int) then 3 else 2 } = s from hs, hsg, if_pos rfl]
      exact ⟨e2, e3, by rw [show wantH { h with line := if y.laid + 1 = segLen (s : Int) then 3 else 2 } = (s : Int) from hws]; assumption⟩
     ·omega
    ·have := ho.dn k hk
     rw [hsg]
     show (if (whereS (h.asks.getD k 0)).1.toNat = s then _ else sgN G (whereS (h.asks.getD k 0)).1.toNat).done = true
     by_cases et : (whereS (h.asks.getD k 0)).1.toNat = s
     ·rw [if_pos et]
      rw [et, hy] at this
      exact this
     ·rw [if_neg et]
      exact this
   | «show» hl =>
    obtain ⟨e2, e3, e4⟩ := hb3 hl
    have hnx := ho.nx (by omega)
    refine ⟨ho.q, ho.al, .inl rfl, fun _ => hnx, fun h4 => by dsimp only at h4; omega, fun h2 => by dsimp only at h2; omega, fun h3 => by dsimp only at h3; omega, fun k hk => ?_⟩
    rw [hsg]
    split
    ·rfl
    ·exact ho.dn k hk
   | take hl hd hb0 =>
    have hnx := ho.nx (by omega)
    have hl0 : y.laid = 0 := by rcases hok with h | h | h <;> omega
    refine ⟨ho.q, ho.al, .inr (.inl rfl), fun _ => hnx, fun h4 => by dsimp only at h4; omega, fun _ => ?_, fun h3 => by dsimp only at h3; omega, fun k hk => ?_⟩
    ·rw [show wantN { h with line := 2, tk := (s : Int) } = s from hs, hsg, if_pos rfl]
     refine ⟨hws.symm, rfl, hd, ?_⟩
     rw [show wantH { h with line := 2, tk := (s : Int) } = (s : Int) from hws]
     show y.laid < segLen (s : Int)
     have := hb.2
     unfold segLen firstS
     rw [if_neg (by omega)]
     dsimp only
     split <;> omega
    ·have := ho.dn k hk
     rw [hsg]
     show (if (whereS (h.asks.getD k 0)).1.toNat = s then _ else sgN G (whereS (h.asks.getD k 0)).1.toNat).done = true
     by_cases et : (whereS (h.asks.getD k 0)).1.toNat = s
     ·rw [if_pos et]
      rw [et, hy] at this
      exact this
     ·rw [if_neg et]
      exact this
   | read hl hd =>
    have hnx := ho.nx (by omega)
    refine ⟨ho.q, ho.al, ?_, fun h4 => ?_, fun h4 => ?_, fun h2 => ?_, fun h3 => ?_, fun k hk => ?_⟩
    ·dsimp only; split <;> omega
    ·dsimp only at h4 ⊢; split at h4 <;> omega
    ·dsimp only at h4 ⊢; split at h4 <;> omega
    ·dsimp only at h2; split at h2 <;> omega
    ·dsimp only at h3; split at h3 <;> omega
    ·rw [hsg]
     show (if (whereS (h.asks.getD k 0)).1.toNat = s then _ else sgN G (whereS (h.asks.getD k 0)).1.toNat).done = true
     by_cases et : (whereS (h.asks.getD k 0)).1.toNat = s
     ·rw [if_pos et]
      exact hd
     ·rw [if_neg et]
      have hk2 : k < h.nx + 1 := hk
      rcases Nat.lt_or_ge k h.nx with h5 | h5
      ·exact ho.dn k h5
      ·obtain rfl : k = h.nx := by omega
       exact absurd hs et
  ·-- another one
   rename_i hj
   have hko := hw.hd j k hk'
   refine ⟨hko.q, hko.al, hko.line, hko.nx, hko.en, fun h2 => ?_, fun h3 => ?_, fun n hn => ?_⟩
   ·rw [hsg]
    split
    ·rename_i et
     rw [hno j k hj hk' (.inl h2) et, ← hy, ← et]
     exact hko.b2 h2
    ·exact hko.b2 h2
   ·rw [hsg]
    split
    ·rename_i et
     rw [hno j k hj hk' (.inr h3) et, ← hy, ← et]
     exact hko.b3 h3
    ·exact hko.b3 h3
   ·have := hko.dn n hn
    rw [hsg]
    split
    ·rename_i et
     rw [et, hy] at this
     exact hdone this
    ·exact this
 ·have hz' : (G.sg.set (wantN h) y')[t]? = some z := hz
  rw [hs, get_set hsl] at hz'
  split at hz'
  ·rename_i et
   cases hz'
   subst et
   cases hv with
   | lay hl =>
    obtain ⟨e1, e2, e3, e4⟩ := hb2 hl
    exact .inr (.inl ⟨e2, e3, by dsimp only; omega⟩)
   | «show» hl =>
    obtain ⟨e2, e3, e4⟩ := hb3 hl
    exact .inr (.inr ⟨e2, rfl, e4⟩)
   | take hl hd hb0 =>
    refine .inr (.inl ⟨rfl, hd, ?_⟩)
    rcases hok with h | h | h
    ·dsimp only; omega
    ·omega
    ·omega
   | read hl hd => exact hok
  ·exact hw.sok t z hz'
 ·have hk' : (G.hs.set i h')[j]? = some k := hk
  have hm' : (G.hs.set i h')[l]? = some m := hm2
  rw [hhs] at hk' hm'
  have key : ∀ (n : Nat) (m : Hd), n ≠ i → G.hs[n]? = some m → (h'.line = 2 ∨ h'.line = 3) → (m.line = 2 ∨ m.line = 3) → wantH h' ≠ wantH m := fun n m hne hm hl1 hl2 => by
   cases hv with
   | lay hl => exact hw.un i n h m (fun e => hne e.symm) hih hm (.inl hl) hl2
   | «show» hl => dsimp only at hl1; omega
   | take hl hd hb0 =>
    intro he
    have hwm : wantN m = s := by rw [← hs]; unfold wantN; rw [← he]; rfl
    have hmo := hw.hd n m hm
    have h1 : (sgN G (wantN m)).built = 1 := by
     rcases hl2 with h2 | h3
     ·exact (hmo.b2 h2).2.1
     ·exact (hmo.b3 h3).1
    rw [hwm, hy] at h1
    omega
   | read hl hd => dsimp only at hl1; split at hl1 <;> omega
  split at hk'
  ·cases hk'
   split at hm'
   ·rename_i e1 e2; exact absurd (e1.trans e2.symm) hjl
   ·exact key l m (by assumption) hm' hl1 hl2
  ·split at hm'
   ·cases hm'
    exact fun e => key j k (by assumption) hk' hl2 hl1 e.symm
   ·exact hw.un j l k m hjl hk' hm' hl1 hl2
/-! ### how far it is to the end -/
def costS (s : Nat) (y : Sg) : Nat := if y.done = true then 0 else if y.built = 0 then 18 else segLen (s : Int) - y.laid + 1
def costH (h : Hd) : Nat := h.asks.length - h.nx
def sumI {α : Type} (f : Nat → α → Nat) : List α → Nat → Nat
 | [], _ => 0
 | x :: L, n => f n x + sumI f L (n + 1)
theorem sumI_set {α : Type} (f : Nat → α → Nat) : ∀ (L : List α) (n i : Nat) (x z : α), L[i]? = some x → sumI f (L.set i z) n + f (n + i) x = sumI f L n + f (n + i) z
 | [], _, i, x, z, h => by simp at h
 | y :: L, n, 0, x, z, h => by
  obtain rfl : y = x := by simpa using h
  show f n z + sumI f L (n + 1) + f n y = f n y + sumI f L (n + 1) + f n z
  omega
 | y :: L, n, i + 1, x, z, h => by
  have ih := sumI_set f L (n + 1) i x z (by simpa using h)
  rw [show n + 1 + i = n + (i + 1) from by omega] at ih
  show f n y + sumI f (L.set i z) (n + 1) + f (n + (i + 1)) x = f n y + sumI f L (n + 1) + f (n + (i + 1)) z
  omega
def phiG (G : GW) : Nat := sumI (fun _ => costH) G.hs 0 + sumI costS G.sg 0
theorem phi_step {G : GW} {i : Nat} (hw : Wf G) (hm : mayG G i = true) : phiG (stepG G i) < phiG G := by
 obtain ⟨h, h', y', hi, hih, hv, e⟩ := step_of hm
 have hb := want_bd h
 have ho := hw.hd i h hih
 have h1 := sumI_set (fun _ => costH) G.hs 0 i h h' hih
 have h2 := sumI_set costS G.sg 0 (wantN h) (sgN G (wantN h)) y' (hw.at hb.2)
 have hok := hw.sok _ _ (hw.at hb.2)
 have hb2 := ho.b2
 have hb3 := ho.b3
 have hnx := ho.nx
 rw [e]
 unfold phiG
 dsimp only
 rw [Nat.zero_add] at h2
 have hsl := segLen_le (wantH h)
 rw [hb.1] at hv hb2 hb3 hsl
 generalize sgN G (wantN h) = y at *
 generalize sumI costS (G.sg.set (wantN h) y') 0 = A at *
 generalize sumI (fun _ => costH) (G.hs.set i h') 0 = C at *
 have key : costH h' + costS (wantN h) y' < costH h + costS (wantN h) y := by
  cases hv with
  | lay hl =>
   obtain ⟨e1, e2, e3, e4⟩ := hb2 hl
   unfold costH costS
   dsimp only
   rw [if_neg (by simp [e3]), if_neg (by omega), if_neg (by simp [e3]), if_neg (by omega)]
   omega
  | «show» hl =>
   obtain ⟨e2, e3, e4⟩ := hb3 hl
   unfold costH costS
   dsimp only
   rw [if_pos rfl, if_neg (by simp [e3]), if_neg (by omega)]
   omega
  | take hl hd hb0 =>
   unfold costH costS
   dsimp only
   rw [if_neg (by simp [hd]), if_neg (by decide), if_neg (by simp [hd]), if_pos hb0]
   omega
  | read hl hd =>
   have := hnx (by omega)
   unfold costH
   dsimp only
   omega
 omega
theorem next_may {G : GW} {i : Nat} (h : nextG G = some i) : mayG G i = true ∧ i < G.hs.length := by
 have h1 := List.find?_some h
 refine ⟨h1, ?_⟩
 obtain ⟨_, _, _, h3, _⟩ := step_of h1
 exact h3
inductive NextN (G0 : GW) : Nat → GW → Prop
 | zero : NextN G0 0 G0
 | succ {k i : Nat} {G : GW} (h : NextN G0 k G) (e : nextG G = some i) : NextN G0 (k + 1) (stepG G i)
theorem NextN.wf {G0 G : GW} {k : Nat} (hw : Wf G0) (h : NextN G0 k G) : Wf G := by
 induction h with
 | zero => exact hw
 | succ h e ih => exact ih.step (next_may e).1
theorem NextN.phi {G0 G : GW} {k : Nat} (hw : Wf G0) (h : NextN G0 k G) : k + phiG G ≤ phiG G0 := by
 induction h with
 | zero => omega
 | succ h e ih =>
  have := phi_step (h.wf hw) (next_may e).1
  omega
theorem NextN.det {G0 G G' : GW} {k : Nat} (h : NextN G0 k G) (h' : NextN G0 k G') : G = G' := by
 induction h generalizing G' with
 | zero => cases h'; rfl
 | succ h e ih =>
  cases h' with
  | succ h2 e2 =>
   obtain rfl := ih h2
   rw [e] at e2
   cases e2
   rfl
theorem NextN.le {G0 G G' : GW} {k k' : Nat} (h : NextN G0 k G) (h' : NextN G0 k' G') (hn : nextG G = none) : k' ≤ k := by
 rcases Nat.lt_or_ge k k' with hl | hl
 ·exfalso
  induction h' with
  | zero => omega
  | @succ k2 i G2 h2 e ih =>
   rcases Nat.lt_or_ge k k2 with h3 | h3
   ·exact ih h3
   ·obtain rfl : k = k2 := by omega
    rw [h.det h2] at hn
    rw [hn] at e
    cases e
 ·exact hl
theorem sumI_le {α : Type} (f : Nat → α → Nat) (c : Nat) : ∀ (L : List α) (n : Nat), (∀ i x, x ∈ L → f i x ≤ c) → sumI f L n ≤ c * L.length
 | [], _, _ => Nat.le_refl _
 | x :: L, n, h => by
  have h1 := h n x (.head _)
  have h2 := sumI_le f c L (n + 1) fun i y hy => h i y (.tail _ hy)
  show f n x + sumI f L (n + 1) ≤ c * (L.length + 1)
  rw [Nat.mul_add, Nat.mul_one]
  omega
theorem phi_le {G : GW} (hw : Wf G) : phiG G ≤ 1762 := by
 have h1 := sumI_le (fun _ => costH) 64 G.hs 0 fun i x hx => by
  obtain ⟨j, hj, rfl⟩ := List.mem_iff_getElem.1 hx
  have := (hw.hd j _ (List.getElem?_eq_getElem hj)).al
  unfold costH
  omega
 have h2 := sumI_le costS 18 G.sg 0 fun i x hx => by
  have := segLen_le (i : Int)
  unfold costS
  split
  ·omega
  ·split <;> omega
 rw [hw.sg] at h2
 have := hw.n16
 unfold phiG
 omega
theorem RestD (b : Nat) (X : Gm) (hwf : Wf X.abs) (w : World) (hS : Sep w.heap.size (fps (gW b X)) w (gW b X)) :
  CallsV P 33 [ptr b] w fun r w' => ∃ (k : Nat) (Y : Gm), r = .int .i64 (k : Int) ∧ NextN X.abs k Y.abs ∧ nextG Y.abs = none ∧ Trans w w' (gW b X) (gW b Y) := by
 refine enterW Try.func33 rfl Try.ntmps33 rfl ?_
 have hw0 : St w w.heap.size (fps (gW b X)) (gW b X) w := St.startS hS
 refine c_seq (c_region (l_assign rfl rfl rfl (l_nil (e_then ?_))))
 refine c_keep [0] (.cons rfl .nil) ?_
 refine c_seq (c_region (l_assign rfl rfl rfl (l_nil (e_then (c_seq ?_)))))
 refine c_seq (c_region (l_move rfl rfl rfl ?_))
 refine l_call rfl rfl Try.func55 rfl rfl (.cons rfl .nil) (nextD b X hwf w (GF.of (σ := []) (by simpa using hw0))) ?_
 rintro _ w1 ⟨rfl, hG⟩
 have hw1 := hG _ _ _ _ hw0
 try clear hG hw0
 simp only [List.cons_append, List.nil_append] at hw1
 refine l_move rfl rfl rfl (l_extract rfl rfl rfl rfl (l_extract rfl rfl rfl rfl ?_))
 refine l_alloc hw1 ta47 rfl rfl (fun b2_5 w2 hw2 => ?_)
 try clear hw1
 refine l_store_blks hw2 .head (.zero (.zero .nil)) rfl tz47 rfl rfl (by first | (simp [Value.oneCell']; done) | (intro u hu; simp only [List.mem_cons, List.not_mem_nil, or_false] at hu; rcases hu with rfl | rfl <;> first | rfl | assumption)) (fun w3 hw3 => ?_)
 try clear hw2
 refine l_assign rfl rfl rfl (l_nil (e_then ?_))
 refine c_keep [0, 3, 4, 5] (.cons rfl (.cons rfl (.cons rfl (.cons rfl .nil)))) ?_
 refine c_block ?_
 refine c_loopk (ι := Nat × Gm × Nat) (fun (z0 : Nat × Gm × Nat) => match z0 with | ⟨k, Y, mb⟩ => phiG Y.abs) (fun (z0 : Nat × Gm × Nat) (w' : World) => match z0 with | ⟨k, Y, mb⟩ => St w w.heap.size (fps (gW b X)) (gW b Y ++ [As.blk mb 47 [.int .i64 (((nextG Y.abs).getD 0 : Nat) : Int), .int .i64 0]]) w' ∧ NextN X.abs k Y.abs) (fun (z0 : Nat × Gm × Nat) => match z0 with | ⟨k, Y, mb⟩ => [(3, .int .i64 (k : Int)), (4, ptr mb), (5, .bool (nextG Y.abs).isSome)]) [0] (0, X, b2_5) ?_ (.cons rfl .nil) ?_ ?_
 ·exact ⟨St.perm (List.perm_middle (l₁ := [_, _, _, _]) (l₂ := [])).symm hw3, .zero⟩
 ·exact (.cons rfl (by first | rfl | (refine congrArg (Value.int _) ?_; omega)) (.cons rfl (by first | rfl | (refine congrArg (Value.int _) ?_; omega)) (.cons rfl (by first | rfl | (refine congrArg (Value.int _) ?_; omega)) .nil)))
 rintro ⟨k, Y, mb⟩ w4 ⟨hw4, hN⟩
 show RunC P _ _ _ (_ :: _) _
 refine c_seq (c_seq (c_region ?_))
 have hwfY := hN.wf hwf
 have hph := hN.phi hwf
 have hpl := phi_le hwf
 refine l_move rfl rfl rfl (l_nil (e_then ?_))
 refine c_keep [0, 3, 4, 11] (.cons rfl (.cons rfl (.cons rfl (.cons rfl .nil)))) ?_
 first | refine c_cond rfl (fun hc0 => ?_) (fun hc0 => ?_) | refine c_condb rfl (fun hc0 => ?_) (fun hc0 => ?_)
 ·skip
  refine c_skip (e_then ?_)
  refine c_keep [0, 3, 4] (.cons rfl (.cons rfl (.cons rfl .nil))) ?_
  refine c_seq (c_block (c_seq (c_region ?_)))
  obtain ⟨i0, hi0⟩ : ∃ i0, nextG Y.abs = some i0 := Option.isSome_iff_exists.1 hc0
  obtain ⟨hmay2, hi2⟩ := next_may hi0
  have hi0' : (nextG Y.abs).getD 0 = i0 := by rw [hi0]; rfl
  rw [← hi0'] at hmay2 hi2
  have hi2 : (nextG Y.abs).getD 0 < Y.hs.length := by simpa [Gm.abs] using hi2
  refine l_move rfl rfl rfl ?_
  refine l_load_agg hw4 mem4 rfl rfl Try.underlying47 rfl tz47 rfl (.take (.take .nil)) ?_
  have hw5 := St.frontL (l := [_, _, _]) hw4
  simp only [List.cons_append, List.nil_append] at hw5
  try clear hw4
  have hw6 := St.frontL (l := [_, _, _]) hw5
  simp only [List.cons_append, List.nil_append] at hw6
  try clear hw5
  have hw7 := St.frontL (l := [_, _, _]) hw6
  simp only [List.cons_append, List.nil_append] at hw7
  try clear hw6
  have hw8 := St.frontL (l := [_, _, _]) hw7
  simp only [List.cons_append, List.nil_append] at hw8
  try clear hw7
  refine l_call rfl rfl Try.func54 rfl rfl (.cons rfl (.cons rfl .nil)) (moveD b Y hwfY ((nextG Y.abs).getD 0) hi2 hmay2 0 w4 (St.rows (τ := gW b Y) hw8)) ?_
  rintro _ w9 ⟨Y2, rfl, hY2, hX2⟩
  have hw9 := hX2 _ _ _ _ hw8
  simp only [gW, List.cons_append, List.nil_append] at hw9
  try clear hX hw8
  refine l_nil (e_then ?_)
  refine c_keep [0, 3, 4] (.cons rfl (.cons rfl (.cons rfl .nil))) ?_
  refine c_region ?_
  have hph2 : phiG Y2.abs < phiG Y.abs := by rw [hY2]; exact phi_step hwfY hmay2
  have hwf2 : Wf Y2.abs := by rw [hY2]; exact hwfY.step hmay2
  rw [hi0'] at hY2
  refine l_move rfl rfl rfl ?_
  refine l_add rfl rfl rfl rfl (w_i64 (by omega)) ?_
  refine l_assign rfl rfl rfl (l_nil ?_)
  refine e_blk ?_
  refine e_then ?_
  refine c_keep [0, 3, 4] (.cons rfl (.cons rfl (.cons rfl .nil))) ?_
  refine c_seq (c_seq (c_region ?_))
  refine l_load_agg hw9 mem4 rfl rfl Try.underlying47 rfl tz47 rfl (.take (.take .nil)) ?_
  refine l_nil (e_then ?_)
  refine c_keep [0, 3, 22] (.cons rfl (.cons rfl (.cons rfl .nil))) ?_
  refine c_region ?_
  refine l_alloc hw9 ta47 rfl rfl (fun b8_0 w10 hw10 => ?_)
  try clear hw9
  refine l_store_blks hw10 .head (.zero (.zero .nil)) rfl tz47 rfl rfl (by first | (simp [Value.oneCell']; done) | (intro u hu; simp only [List.mem_cons, List.not_mem_nil, or_false] at hu; rcases hu with rfl | rfl <;> first | rfl | assumption)) (fun w11 hw11 => ?_)
  try clear hw10
  refine l_nil (e_then ?_)
  refine c_keep [0, 3, 4] (.cons rfl (.cons rfl (.cons rfl .nil))) ?_
  refine c_region (l_move rfl rfl rfl ?_)
  have hw12 := St.frontL (l := [_, _, _, _]) hw11
  simp only [List.cons_append, List.nil_append] at hw12
  try clear hw11
  have hw13 := St.frontL (l := [_, _, _, _]) hw12
  simp only [List.cons_append, List.nil_append] at hw13
  try clear hw12
  have hw14 := St.frontL (l := [_, _, _, _]) hw13
  simp only [List.cons_append, List.nil_append] at hw14
  try clear hw13
  have hw15 := St.frontL (l := [_, _, _, _]) hw14
  simp only [List.cons_append, List.nil_append] at hw15
  try clear hw14
  refine l_call rfl rfl Try.func55 rfl rfl (.cons rfl .nil) (nextD b Y2 hwf2 w11 (GF.of (σ := _) hw15)) ?_
  rintro _ w16 ⟨rfl, hG⟩
  have hw16 := hG _ _ _ _ hw15
  try clear hG hw15
  simp only [List.cons_append, List.nil_append] at hw16
  refine l_move rfl rfl rfl (l_extract rfl rfl rfl rfl (l_extract rfl rfl rfl rfl ?_))
  refine l_store_blks hw16 (.tail (.tail (.tail (.tail .head)))) (.zero (.zero .nil)) rfl tz47 rfl rfl (by first | (simp [Value.oneCell']; done) | (intro u hu; simp only [List.mem_cons, List.not_mem_nil, or_false] at hu; rcases hu with rfl | rfl <;> first | rfl | assumption)) (fun w17 hw17 => ?_)
  try clear hw16
  refine l_assign rfl rfl rfl (l_nil ?_)
  have hw18 := St.del (.tail (.tail (.tail (.tail (.tail .head))))) hw17
  try clear hw17
  refine e_againk (i := (k, Y, mb)) (k + 1, Y2, b8_0) ?_ ?_ (.cons rfl .nil) ?_
  ·first | omega | (simp; omega)
  ·exact ⟨hw18, by rw [hY2]; exact .succ hN hi0⟩
  ·exact (.cons rfl (by first | rfl | (refine congrArg (Value.int _) ?_; omega)) (.cons rfl (by first | rfl | (refine congrArg (Value.int _) ?_; omega)) (.cons rfl (by first | rfl | (refine congrArg (Value.int _) ?_; omega)) .nil)))
 ·skip
  refine c_exit ?_
  refine e_then_exit ?_
  refine e_then_exit ?_
  refine e_blk_exit ?_
  refine e_then ?_
  refine c_keep [3] (.cons rfl .nil) ?_
  refine c_seq (c_region (l_move rfl rfl rfl (l_assign rfl rfl rfl (l_nil (e_then ?_)))))
  refine c_keep [2] (.cons rfl .nil) ?_
  refine c_ret ?_
  refine e_done1 Try.results33 rfl ?_
  refine ⟨_, rfl, ?_⟩
  have hw19 := St.front3 hw4
  try clear hw4
  have hw20 := St.front3 hw19
  try clear hw19
  have hw21 := St.front3 hw20
  try clear hw20
  have hw22 := St.front3 hw21
  try clear hw21
  have hw23 := St.del (.tail (.tail (.tail (.tail .head)))) hw22
  try clear hw22
  exact ⟨k, Y, rfl, hN, by simpa using hc0, hw23.transS⟩
end Go.Proofs.Ytgfkagaacdblbaa.W
