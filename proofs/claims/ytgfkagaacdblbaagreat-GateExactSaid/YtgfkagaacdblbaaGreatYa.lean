/- the gate: its state, its rows -/
import Derived.Test.YtgfkagaacdblbaaGreatPh
import Derived.Test.YtgfkagaacdblbaaGreatOp
import Derived.Test.YtgfkagaacdblbaaGreatVy
set_option linter.unusedVariables false
set_option linter.unusedSimpArgs false
set_option maxRecDepth 10000
namespace Go.Proofs.YtgfkagaacdblbaaGreat.W
open Go.Vc Go.RowKit Tryz
section
variable {P : Program} {N : Nat} {ρ : Env} {w w' w0 : World} {Q : Z26} {ops : Array Oper} {rest : List Oper} {d : Nat} {ty : TypeId} {pos : String} {af : Array Edge} {g : Option (Nat × Bool)} {B : Nat} {M : Nat → Prop} {σ σ' τ τ' : List As}
theorem Z11 {x ix : Operand} {k : IntKind} {i : Int} {j m b o n : Nat} {T e : TypeId} (hg : Z0t ops ρ g = true) (hN : Nat.blt d N = true) (hT : P.underlying T = some (.array m e)) (hsz : (P.info? e).map (·.size) = some n)
  (hx : Z0g ρ x = some (.pointer (some ⟨b, o, none⟩))) (hi : Z0g ρ ix = some (.int k i)) (hij : i = (j : Int)) (hb : j < m)
  (nx : RunL P N ops Q rest ((d, .pointer (some ⟨b, o + j * n, none⟩)) :: ρ) w) : RunL P N ops Q (⟨some d, .indexAddr T x ix, ty, pos, af, g⟩ :: rest) ρ w := by
 subst hij
 exact Z1n hg rfl hN (fun a ha => by
  cases hq : P.info? e with
  | none => simp [hq] at hsz
  | some inf =>
   have h1 : inf.size = n := by simpa [hq] using hsz
   have h2 : (⟨b, o, none⟩ : Addr).add (j * n) = ⟨b, o + j * n, none⟩ := by rw [Z2p]
   simp [execOp, ha.eval hx, ha.eval hi, Instr.indexAt, Instr.sureAddr, asIntOf, run_underlying hT, hb, sizeOf, typeInfo, hq, h1, h2]) nx
theorem blk_cell {b o : Nat} {E : TypeId} {cs : List Value} {v : Value} (h : (As.blk b E cs).ok w) (hv : cs[o]? = some v) : w.cell? ⟨b, o, none⟩ = some v ∧ w.frozen? ⟨b, o, none⟩ = false := by
 have hb : w.heap[b]? = some (.cells cs.toArray E (0, 0)) := h
 exact ⟨by rw [cell_of_row w b _ cs.toArray E (0, 0) hb]; simpa using hv, by simp [World.frozen?, hb]⟩
/-! ### rows bundled, each apart from the others -/
def As.sep (τ : List As) : As :=
 ⟨fun k => ∃ A ∈ τ, A.fp k, fun w => (∀ A ∈ τ, A.ok w) ∧ τ.Pairwise (fun (A A' : As) => ∀ k : Nat, A.fp k → ¬ A'.fp k), fun w w' h hw => ⟨fun A hA => A.loc w w' (fun k hk => h k ⟨A, hA, hk⟩) (hw.1 A hA), hw.2⟩⟩
theorem sep_out {A : As} (h : Sep B M w (As.sep (A :: τ) :: σ)) : Sep B M w (A :: As.sep τ :: σ) := by
 obtain ⟨⟨h1, h2⟩, h3, h4, h5⟩ := h
 rw [List.pairwise_cons] at h2
 refine ⟨h1 A (.head _), fun k hk => h3 k ⟨A, .head _, hk⟩, fun X hX k hk hk' => ?_, ⟨fun X hX => h1 X (.tail _ hX), h2.2⟩, fun k ⟨X, hX, hk⟩ => h3 k ⟨X, .tail _ hX, hk⟩, fun X hX k ⟨Y, hY, hk⟩ => h4 X hX k ⟨Y, .tail _ hY, hk⟩, h5⟩
 cases hX with
 | head => obtain ⟨Y, hY, hk2⟩ := hk'; exact h2.1 Y hY k hk hk2
 | tail _ hX => exact h4 X hX k ⟨A, .head _, hk⟩ hk'
theorem sep_in {A : As} (h : Sep B M w (A :: As.sep τ :: σ)) : Sep B M w (As.sep (A :: τ) :: σ) := by
 obtain ⟨h1, h2, h3, ⟨h4, h5⟩, h6, h7, h8⟩ := h
 refine ⟨⟨fun X hX => ?_, List.pairwise_cons.2 ⟨fun Y hY k hk hk' => h3 (As.sep τ) (.head _) k hk ⟨Y, hY, hk'⟩, h5⟩⟩, fun k ⟨X, hX, hk⟩ => ?_, fun X hX k ⟨Y, hY, hk⟩ hk' => ?_, h8⟩
 ·cases hX with
  | head => exact h1
  | tail _ hX => exact h4 X hX
 ·cases hX with
  | head => exact h2 k hk
  | tail _ hX => exact h6 k ⟨X, hX, hk⟩
 cases hY with
 | head => exact h3 X (.tail _ hX) k hk hk'
 | tail _ hY => exact h7 X hX k ⟨Y, hY, hk⟩ hk'
theorem Sep.perm (hp : σ.Perm σ') (h : Sep B M w σ) : Sep B M w σ' := by
 induction hp with
 | nil => exact h
 | cons A hp ih => exact ⟨h.1, h.2.1, fun X hX => h.2.2.1 X (hp.mem_iff.2 hX), ih h.2.2.2⟩
 | swap A A' l => exact h.swap_
 | trans _ _ ih1 ih2 => exact ih2 (ih1 h)
theorem St.perm (hp : σ.Perm σ') (h : St w0 B M σ w) : St w0 B M σ' w := ⟨h.ext, h.base, Sep.perm hp h.sep⟩
theorem Sep.cons_ {A : As} (h : Sep B M w (A :: σ)) (f : Sep B M w σ → Sep B M w σ') (hm : ∀ X ∈ σ', ∀ k, X.fp k → ∃ Y ∈ σ, Y.fp k) : Sep B M w (A :: σ') :=
 ⟨h.1, h.2.1, fun X hX k hk hk' => by obtain ⟨Y, hY, hk2⟩ := hm X hX k hk'; exact h.2.2.1 Y hY k hk hk2, f h.2.2.2⟩
theorem sep_outs : ∀ (l : List As), Sep B M w (As.sep (l ++ τ) :: σ) → Sep B M w (l ++ As.sep τ :: σ)
 | [], h => h
 | A :: l, h => Sep.cons_ (sep_out h) (sep_outs l) fun X hX k hk => by
  rcases List.mem_append.1 hX with h1 | h1
  ·exact ⟨_, .head _, X, List.mem_append_left _ h1, hk⟩
  cases h1 with
  | head => obtain ⟨Y, hY, hk⟩ := hk; exact ⟨_, .head _, Y, List.mem_append_right _ hY, hk⟩
  | tail _ h1 => exact ⟨X, .tail _ h1, hk⟩
theorem sep_ins : ∀ (l : List As), Sep B M w (l ++ As.sep τ :: σ) → Sep B M w (As.sep (l ++ τ) :: σ)
 | [], h => h
 | A :: l, h => sep_in (Sep.cons_ h (sep_ins l) fun X hX k hk => by
  cases hX with
  | head =>
   obtain ⟨Y, hY, hk⟩ := hk
   rcases List.mem_append.1 hY with h1 | h1
   ·exact ⟨Y, List.mem_append_left _ h1, hk⟩
   exact ⟨_, List.mem_append_right _ (.head _), Y, h1, hk⟩
  | tail _ hX => exact ⟨X, List.mem_append_right _ (.tail _ hX), hk⟩)
theorem Z2P (h : St w0 B M σ w) : St w0 B M (As.sep [] :: σ) w := ⟨h.ext, h.base, ⟨fun _ h => (nomatch h), .nil⟩, fun _ ⟨_, h, _⟩ => (nomatch h), fun _ _ _ ⟨_, h, _⟩ => (nomatch h), h.sep⟩
theorem sep_perm (hp : τ.Perm τ') (h : St w0 B M (As.sep τ :: σ) w) : St w0 B M (As.sep τ' :: σ) w := by
 obtain ⟨h1, h2, ⟨h3, h4⟩, h5, h6, h7⟩ := h
 exact ⟨h1, h2, ⟨fun A hA => h3 A (hp.mem_iff.2 hA), h4.perm hp fun hr k h1 h2 => hr k h2 h1⟩, fun k ⟨A, hA, hk⟩ => h5 k ⟨A, hp.mem_iff.2 hA, hk⟩, fun X hX k ⟨A, hA, hk⟩ => h6 X hX k ⟨A, hp.mem_iff.2 hA, hk⟩, h7⟩
theorem Z2z {l : List As} (hp : τ.Perm (l ++ τ')) (h : St w0 B M (As.sep τ :: σ) w) : St w0 B M (l ++ As.sep τ' :: σ) w := by
 have h2 := sep_perm hp h
 exact ⟨h2.ext, h2.base, sep_outs l h2.sep⟩
theorem Z29 {l : List As} (hp : (l ++ τ').Perm τ) (h : St w0 B M (l ++ As.sep τ' :: σ) w) : St w0 B M (As.sep τ :: σ) w :=
 sep_perm hp ⟨h.ext, h.base, sep_ins l h.sep⟩
end
/-! ### rows that a list of things holds -/
theorem Z3p {α : Type} (f : Nat → α → List As) : ∀ (L : List α) (n i : Nat) (m : α), L[i]? = some m → ∃ O : List As, ∀ m', (((L.set i m').mapIdx fun j => f (j + n)).flatten).Perm (f (i + n) m' ++ O)
 | [], _, i, m, h => by simp at h
 | x :: L, n, 0, m, h => ⟨((L.mapIdx fun j => f (j + 1 + n)).flatten), fun m' => by simp [List.mapIdx_cons]⟩
 | x :: L, n, i + 1, m, h => by
  obtain ⟨O, hO⟩ := Z3p f L (n + 1) i m (by simpa using h)
  refine ⟨f n x ++ O, fun m' => ?_⟩
  have h2 := hO m'
  simp only [List.set_cons_succ, List.mapIdx_cons, List.flatten_cons, Nat.zero_add]
  rw [show (fun j => f (j + 1 + n)) = (fun j => f (j + (n + 1))) from by funext j; rw [Nat.add_assoc, Nat.add_comm 1 n]]
  rw [show i + (n + 1) = i + 1 + n from by omega] at h2
  refine (List.Perm.append_left _ h2).trans ?_
  rw [← List.append_assoc, ← List.append_assoc]
  exact (List.perm_append_comm).append_right _
theorem sing_flat {α : Type} : ∀ (K : List α) (f : Nat → α → As), (K.mapIdx fun j x => [f j x]).flatten = K.mapIdx f
 | [], _ => rfl
 | x :: K, f => by
  simp only [List.mapIdx_cons, List.flatten_cons]
  rw [sing_flat K (fun j => f (j + 1))]
  rfl
theorem map_perm {α : Type} (f : Nat → α → As) (L : List α) (i : Nat) (m : α) (h : L[i]? = some m) : ∃ O : List As, ∀ m', ((L.set i m').mapIdx f).Perm (f i m' :: O) := by
 obtain ⟨O, hO⟩ := Z3p (fun j x => [f j x]) L 0 i m h
 refine ⟨O, fun m' => ?_⟩
 have := hO m'
 simp only [Nat.add_zero] at this
 rw [sing_flat] at this
 exact this
theorem Z36 {α : Type} {L : List α} {i : Nat} {m : α} (h : L[i]? = some m) : L.set i m = L := by
 obtain ⟨h1, rfl⟩ := List.getElem?_eq_some_iff.1 h
 simp
theorem Z41 {k : Nat} : ∀ (rs : List (List Value)), (∀ x ∈ rs, x.length = k) → ∀ (j : Nat) (r : List Value), rs[j]? = some r → ∀ (i : Nat), i < k → ∀ v, rs.flatten.set (j * k + i) v = (rs.set j (r.set i v)).flatten
 | [], _, j, r, h, _, _, _ => by simp at h
 | x :: rs, h, 0, r, hr, i, hi, v => by
  have hx := h x (.head _)
  obtain rfl : x = r := by simpa using hr
  rw [Nat.zero_mul, Nat.zero_add, List.flatten_cons, List.set_append_left _ _ ZO]
  rfl
 | x :: rs, h, j + 1, r, hr, i, hi, v => by
  have hx := h x (.head _)
  have ih := Z41 rs (fun y hy => h y (.tail _ hy)) j r (by simpa using hr) i hi v
  rw [List.flatten_cons, List.set_append_right _ _ (by rw [hx, Nat.add_mul, Nat.one_mul]; omega), hx, List.set_cons_succ, List.flatten_cons, ← ih]
  congr 2
  rw [Nat.add_mul, Nat.one_mul]
  omega
/-! ### the world of the gate -/
structure Hd where
 asks : List Int
 line : Int
 nx : Nat
 tk : Int
structure Sg where
 built : Int
 laid : Nat
 done : Bool
structure GW where
 hs : List Hd
 sg : List Sg
 fr : Nat
structure Hm where
 h : Hd
 bw : Nat
 bg : Nat
 bi : Nat
 bs : Nat
 bp : Nat
 wb : Nat
 vn : Value
 vp : Value
 vt : Value
 vd : Value
structure Sm where
 s : Sg
 v : Value
structure Gm where
 vh : Value
 vr : Value
 fr : Nat
 hs : List Hm
 sg : List Sm
def Gm.abs (X : Gm) : GW := ⟨X.hs.map (·.h), X.sg.map (·.s), X.fr⟩
def Z1h (l : List Int) : List Int := l.map fun q => (Z0K q).1
def Z2a (l : List Int) : List Int := l.map fun q => (Z0K q).2.1
def Z0Y (l : List Int) : List (List Value) := l.map fun q => wrow (entS q).1
def takR (tk : Int) : List (List Value) := if tk < 0 then [] else segR tk
def segC (y : Sm) : List Value := [y.v, .int .i64 y.s.built, .bool y.s.done]
def gC (X : Gm) : List Value := X.vh :: .int .i64 (X.fr : Int) :: ((X.sg.map segC).flatten ++ [X.vr])
def ptr (b : Nat) : Value := .pointer (some ⟨b, 0, none⟩)
def Z0V (m : Hm) : List Value := [.func (.func 47) #[] #[ptr m.bw], .func (.func 49) #[] #[ptr m.bw, ptr m.bg, ptr m.bi, ptr m.bs, ptr m.bp], .func (.func 53) #[] #[ptr m.bw]]
def wkC (b : Nat) (m : Hm) : List Value := [.pointer (some ⟨b, 2, none⟩), m.vn, .int .i64 (m.h.nx : Int), .int .i64 m.h.line, m.vt]
abbrev hrow (b i : Nat) (m : Hm) : List As :=
  [As.blk m.bw 94 [ptr m.wb], As.blk m.bg 25 [ptr b], As.blk m.bi 3 [.int .i64 (i : Int)], As.blk m.bs 34 [m.vn], As.blk m.bp 34 [m.vp], As.blk m.wb 109 (wkC b m),
   As.ri 3 .i64 m.vn (Z1h m.h.asks), As.ri 3 .i64 m.vp (Z2a m.h.asks), As.rk 85 2 m.vt (takR m.h.tk), As.rk 85 2 m.vd (Z0Y (m.h.asks.take m.h.nx))]
abbrev srow (s : Nat) (y : Sm) : As := As.rk 85 2 y.v ((segR (s : Int)).take y.s.laid)
def Z1t (b : Nat) (X : Gm) : List As := (X.hs.mapIdx (hrow b)).flatten ++ X.sg.mapIdx srow
abbrev gW (b : Nat) (X : Gm) : List As := [As.blk b 63 (gC X), As.rk 71 3 X.vh (X.hs.map Z0V), As.ro 47 X.vr (X.hs.map (·.vd)), As.sep (Z1t b X)]
theorem rest_split {b : Nat} {X : Gm} {i s : Nat} {m : Hm} {y : Sm} (hm : X.hs[i]? = some m) (hy : X.sg[s]? = some y) : ∃ O : List As, (Z1t b X).Perm (hrow b i m ++ srow s y :: O) ∧ ∀ (m' : Hm) (y' : Sm) (Y : Gm), Y.hs = X.hs.set i m' → Y.sg = X.sg.set s y' → (hrow b i m' ++ srow s y' :: O).Perm (Z1t b Y) := by
 obtain ⟨O1, h1⟩ := Z3p (fun j => hrow b j) X.hs 0 i m hm
 obtain ⟨O2, h2⟩ := map_perm srow X.sg s y hy
 simp only [Nat.add_zero] at h1
 have key : ∀ (m' : Hm) (y' : Sm), (((X.hs.set i m').mapIdx (hrow b)).flatten ++ (X.sg.set s y').mapIdx srow).Perm (hrow b i m' ++ srow s y' :: (O1 ++ O2)) := fun m' y' => by
  refine ((h1 m').append (h2 y')).trans ?_
  rw [List.append_assoc]
  exact List.Perm.append_left _ (List.perm_middle)
 refine ⟨O1 ++ O2, ?_, fun m' y' Y e1 e2 => ?_⟩
 ·have := key m y
  rw [Z36 hm, Z36 hy] at this
  exact this
 unfold Z1t
 rw [e1, e2]
 exact (key m' y').symm
theorem Z2X (L : List Sm) : ∀ x ∈ L.map segC, x.length = 3 := fun x hx => by
 obtain ⟨y, _, rfl⟩ := List.mem_map.1 hx
 rfl
theorem Z3q {X : Gm} {s : Nat} {y : Sm} (h : X.sg[s]? = some y) (i : Nat) (hi : i < 3) : (gC X)[2 + s * 3 + i]? = (segC y)[i]? := by
 have hs := (List.getElem?_eq_some_iff.1 h).1
 have h1 := flat_at (X.sg.map segC) (Z2X _) s (segC y) (by simp [h]) i hi
 have hl := Z33 (X.sg.map segC) (Z2X _)
 rw [List.length_map] at hl
 unfold gC
 rw [show 2 + s * 3 + i = (s * 3 + i) + 1 + 1 from by omega, List.getElem?_cons_succ, List.getElem?_cons_succ, List.getElem?_append_left ZO, h1]
theorem gC_vr {X : Gm} (hl : X.sg.length = 41) : (gC X)[125]? = some X.vr := by
 have h1 := Z33 (X.sg.map segC) (Z2X _)
 rw [List.length_map, hl] at h1
 unfold gC
 rw [show 125 = 123 + 1 + 1 from rfl, List.getElem?_cons_succ, List.getElem?_cons_succ, List.getElem?_append_right ZO, h1]
 rfl
theorem gC_set {X : Gm} {s : Nat} {y y' : Sm} {v : Value} (h : X.sg[s]? = some y) (i : Nat) (hi : i < 3) (he : (segC y).set i v = segC y') : (gC X).set (2 + s * 3 + i) v = gC { X with sg := X.sg.set s y' } := by
 have hs := (List.getElem?_eq_some_iff.1 h).1
 have h1 := Z41 (X.sg.map segC) (Z2X _) s (segC y) (by simp [h]) i hi v
 have hl := Z33 (X.sg.map segC) (Z2X _)
 rw [List.length_map] at hl
 unfold gC
 rw [show 2 + s * 3 + i = (s * 3 + i) + 1 + 1 from by omega, List.set_cons_succ, List.set_cons_succ, List.set_append_left _ _ ZO, h1, he, List.map_set]
section
variable {P : Program} {N : Nat} {ρ : Env} {w w0 : World} {ops : Array Oper} {rest : List Oper} {d : Nat} {ty : TypeId} {pos : String} {af : Array Edge} {g : Option (Nat × Bool)} {B : Nat} {M : Nat → Prop} {σ σ' : List As}
theorem Z2t {Q : Post} {t e : TypeId} {x : Operand} {y0 y1 z0 z1 : Value} {bytes : Nat} (hw : St w0 B M σ w) (hg : Z0t ops ρ g = true) (hN : Nat.blt d N = true) (hT : P.underlying t = some (.slice e)) (hi : (P.info? e).map (fun i => (i.zero, i.size, i.bytes)) = some (some (.agg #[z0, z1]), 2, bytes))
  (hz : (Value.agg #[z0, z1]).cells = #[z0, z1]) (hx : Z0g ρ x = some (.agg #[y0, y1])) (hc : (Value.agg #[y0, y1]).cells = #[y0, y1])
  (n : ∀ b w', St w0 B M (As.blk b e [y0, y1] :: σ) w' → RunL P N ops ⟨false, Q⟩ rest ((d, .slice (some ⟨b, 0, none⟩) 1 1) :: ρ) w') : RunL P N ops ⟨false, Q⟩ (⟨some d, .buildSlice t 1 #[(0, x)], ty, pos, af, g⟩ :: rest) ρ w := by
 obtain ⟨i, hi, h2, h3, h4⟩ := info_parts hi
 refine Z2k (fun h => by cases h) hg rfl hN (fun a ha => ?_) (n w.heap.size (w.alloc (.cells #[y0, y1] e)) (hw.new _ _ (heap_alloc_new w _) fun k hk => hk))
 have hr : (Instr.buildSlice t 1 #[(0, .agg #[y0, y1])]).run P w = .ok (.slice (some ⟨w.heap.size, 0, none⟩) 1 1) (w.alloc (.cells #[y0, y1] e)) := by
  simp [Instr.buildSlice, run_underlying hT, sizeOf, typeInfo, hi, h2, h3, zeroValue, hz, Instr.fill, hc, newRow, Array.range, List.range]
  generalize i.size = m at h3 ⊢
  subst h3
  refine congrArg (fun z => w.alloc (Obj.cells z e)) (Array.ext (by simp) fun i h1 h2 => ?_)
  have : i = 0 ∨ i = 1 := by simp at h2; omega
  rcases this with rfl | rfl <;> simp
 simp only [execOp]
 simp [ha.eval hx, hr]
theorem Z19 {Q : Post} {s x : Operand} {t e : TypeId} {z v : Value} {k bytes c : Nat} {rs : List (List Value)} {r : List Value} (hw : St w0 B M (As.rk e k v rs :: σ) w) (hg : Z0t ops ρ g = true) (hN : Nat.blt d N = true) (ht : P.underlying t = some (.slice e)) (hi : (P.info? e).map (fun i => (i.zero, i.size, i.bytes)) = some (some z, k, bytes)) (hzs : z.cells.size = k)
  (hs : Z0g ρ s = some v) (hx : Z0g ρ x = some (.slice (some ⟨c, 0, none⟩) 1 1)) (hl : r.length = k) (hnews : Sl w (some ⟨c, 0, none⟩) r) (h1 : ∀ u ∈ r, u.oneCell' = true) (hbytes : (rs.length + 1) * bytes ≤ 140737488355328) (h63 : rs.length + 1 ≤ 9223372036854775807)
  (nx : ∀ v' w', St w0 B M (As.rk e k v' (rs ++ [r]) :: σ) w' → RunL P N ops ⟨false, Q⟩ rest ((d, v') :: ρ) w') : RunL P N ops ⟨false, Q⟩ (⟨some d, .call ⟨.builtin .append, #[s, x], #[t, t]⟩, ty, pos, af, g⟩ :: rest) ρ w :=
 Z48 hw hg hN ht hi hzs hs hx (by simp [hl]) hnews (fun h => by cases h) h1 hbytes h63 (fun A' c' w' hw' => nx _ w' (hw'.cast (by unfold As.rk; rw [List.length_append, List.flatten_append]; simp)))
end
section
variable {P : Program} {N : Nat} {Q : Post} {ρ : Env} {w : World} {S : World → Prop} {ops : Array Oper} {L L1 L2 L3 : List Bool} {fuel : Nat}
end
theorem win0 {cs r : List Value} {n : Nat} (hl : r.length = n) (h : ∀ i, i < n → cs[i]? = r[i]?) : Win cs 0 n r := by
 induction n generalizing cs r with
 | zero => obtain rfl := List.eq_nil_of_length_eq_zero hl; exact .nil
 | succ n ih =>
  cases r with
  | nil => simp at hl
  | cons x r =>
   have h0 := h 0 ZO
   cases cs with
   | nil => simp at h0
   | cons y cs =>
    obtain rfl : y = x := by simpa using h0
    exact .take (ih (by simpa using hl) fun i hi => by have := h (i + 1) ZO; simpa using this)
theorem win_of {cs r : List Value} {o n : Nat} (hn : 0 < n) (hl : r.length = n) (h : ∀ i, i < n → cs[o + i]? = r[i]?) : Win cs o n r := by
 induction o generalizing cs with
 | zero => exact win0 hl fun i hi => by have := h i hi; rwa [Nat.zero_add] at this
 | succ o ih =>
  cases cs with
  | nil =>
   have := h 0 hn
   cases r with
   | nil => subst hl; exact absurd hn (by simp)
   | cons x r => simp at this
  | cons y cs => exact .drop (ih fun i hi => by have := h i hi; rw [show o + 1 + i = (o + i) + 1 from by omega] at this; simpa using this)
/-! ### what a hand does -/
def Z15 (s : Int) : Nat := (Z0M s).2.1.toNat
def Z1d (h : Hd) : Int := (Z0K (h.asks.getD h.nx 0)).1
def mayH (h : Hd) (y : Sg) : Bool := if h.line = 1 then y.done || decide (y.built = 0) else decide (h.line = 2 ∨ h.line = 3)
def Z0G (s : Int) (h : Hd) (y : Sg) : Hd × Sg :=
 if h.line = 2 then ({ h with line := if y.laid + 1 = Z15 s then 3 else 2 }, { y with laid := y.laid + 1 })
 else if h.line = 3 then ({ h with line := 1 }, { y with done := true })
 else if y.done = false then ({ h with line := 2, tk := s }, { y with built := y.built + 1 })
 else ({ h with nx := h.nx + 1, line := if h.nx + 1 = h.asks.length then 4 else 1 }, y)
def sgF (G : GW) (s : Int) : Sg := if 0 ≤ s ∧ s < 41 then G.sg.getD s.toNat ⟨0, 0, false⟩ else ⟨0, 0, false⟩
theorem sgF_at {X : Gm} {s : Nat} {y : Sm} (hs : s < 41) (h : X.sg[s]? = some y) : sgF X.abs (s : Int) = y.s := by
 unfold sgF Gm.abs
 rw [if_pos (show 0 ≤ (s : Int) ∧ (s : Int) < 41 by omega)]
 simp [List.getD, h]
theorem Z0S {w0 w : World} {σ : List As} {b : Nat} {E : TypeId} {cs : List Value} (hw : St w0 w0.heap.size Z0J σ w) (h : (As.blk b E cs).ok w0) : (As.blk b E cs).ok w :=
 (hw.ext.block b (Array.getElem?_eq_some_iff.1 (show w0.heap[b]? = some _ from h)).1 (fun e => e)).trans h
theorem sgF_done (G : GW) (s : Int) : decide ((0 ≤ s ∧ s < 41) ∧ (sgF G s).done = true) = (sgF G s).done := by
 unfold sgF
 split <;> simp [*]
theorem Z4A (s : Int) : (segR s).length = Z15 s := segR_len s
theorem Z2Q {l : List Int} {i : Nat} (h : i < l.length) : (Z1h l).getD i 0 = (Z0K (l.getD i 0)).1 := by
 simp [Z1h, List.getD, h]
theorem plcsA_get {l : List Int} {i : Nat} (h : i < l.length) : (Z2a l).getD i 0 = (Z0K (l.getD i 0)).2.1 := by
 simp [Z2a, List.getD, h]
theorem Z2Y (q : Int) : (0 ≤ (Z0K q).1 ∧ (Z0K q).1 ≤ 40) ∧ 0 ≤ (Z0K q).2.1 ∧ (Z0K q).2.1 ≤ 15 := by
 unfold Z0K
 split <;> dsimp only <;> omega
theorem Z3P (l : List Int) : Rg (-9223372036854775808) 9223372036854775807 (Z1h l) := fun x hx => by
 obtain ⟨q, _, rfl⟩ := List.mem_map.1 hx
 have := Z2Y q
 omega
theorem plcsA_rg (l : List Int) : Rg (-9223372036854775808) 9223372036854775807 (Z2a l) := fun x hx => by
 obtain ⟨q, _, rfl⟩ := List.mem_map.1 hx
 have := Z2Y q
 omega
theorem Z2u (l : List Int) : (Z1h l).length = l.length := by simp [Z1h]
theorem plcsA_len (l : List Int) : (Z2a l).length = l.length := by simp [Z2a]
theorem hasS (s : Int) (w : World) :
  Z0f P 67 [.int .i64 s] w fun r w' => r = .bool (decide (0 ≤ s ∧ s < 41)) ∧ w = w' := by
 refine Z0o func67 rfl ntmps67 rfl ?_
 refine Z03 (Z00 (Zg (Z01 (Z02 ?_))))
 refine Zk [0] ?_
 refine Z03 (Z00 (Zm ?_))
 refine Zh ?_
 refine Zm ?_
 apply Z47 2 [] rfl rfl (.cons rfl .nil) rfl rfl (fun _ => rfl) rfl rfl rfl
 ·intro hg1_3
  refine Zm ?_
  refine Zl ?_
  refine Z01 ?_
  exact Z0O rfl (.cons rfl (ZT hg1_3) .nil)
 refine Zg (Z01 (Z02 ?_))
 refine Zk [2] ?_
 refine Z0i ?_
 refine Z0e results67 rfl ?_
 refine ⟨_, rfl, ?_⟩
 exact ⟨rfl, rfl⟩
theorem BuiltT (b : Nat) (X : Gm) (hX : X.sg.length = 41) (s : Int) (w : World) (hb : (As.blk b 63 (gC X)).ok w) :
  Z0f P 56 [.pointer (some ⟨b, 2, none⟩), .int .i64 s] w fun r w' => r = .int .i64 (sgF X.abs s).built ∧ w = w' := by
 refine Z0o func56 rfl ntmps56 rfl ?_
 refine Z03 (Z00 (Zg (Z01 (Z02 ?_))))
 refine Zk [0, 1] ?_
 refine Z03 (Z03 (Z00 (Zm ?_)))
 refine Zp func67 (hasS s _) ?_
 first | refine Z38 rfl rfl rfl ?_ | refine Z3v rfl rfl rfl ?_
 refine Z01 (Z02 ?_)
 refine Zk [0, 1, 7] ?_
 (first | refine Z0c rfl ?_ ?_ | refine Z08 rfl ?_ ?_) <;> intro hc0
 ·refine Z03 (Z00 (Zg (Z01 (Z02 ?_))))
  refine Zk [4] ?_
  refine Z0i ?_
  refine Z07 ?_
  refine Z0e results56 rfl ?_
  refine ⟨_, rfl, ?_⟩
  exact ⟨by rw [show sgF X.abs s = ⟨0, 0, false⟩ from if_neg (by simpa using hc0)] <;> rfl, rfl⟩
 have hin : 0 ≤ s ∧ s < 41 := by simpa using hc0
 obtain ⟨y, hy⟩ : ∃ y, X.sg[s.toNat]? = some y := ⟨X.sg[s.toNat]'ZO, List.getElem?_eq_getElem ZO⟩
 have hsf : sgF X.abs s = y.s := by
  have := sgF_at (s := s.toNat) ZO hy
  rwa [show ((s.toNat : Nat) : Int) = s from by omega] at this
 refine Z0a (Z02 ?_)
 refine Zk [0, 1] ?_
 refine Z03 (Z00 (Zm (Zm (Z0b rfl rfl rfl (Z09 Z4p rfl rfl rfl ?_)))))
 refine Z11 (j := s.toNat) (n := 3) rfl rfl underlying59 tz58 rfl rfl ZO ZO ?_
 refine Z09 fo58_1 rfl rfl rfl ?_
 refine Z05 (Z0r hb) mem0 rfl rfl underlying3 rfl rfl (Z3q hy 1 ZO) ?_
 refine Zg (Z01 (Z02 ?_))
 refine Zk [4] ?_
 refine Z0i ?_
 refine Z0e results56 rfl ?_
 refine ⟨_, rfl, ?_⟩
 exact ⟨by rw [hsf], rfl⟩
theorem CompleteT (b : Nat) (X : Gm) (hX : X.sg.length = 41) (s : Int) (w : World) (hb : (As.blk b 63 (gC X)).ok w) :
  Z0f P 65 [.pointer (some ⟨b, 2, none⟩), .int .i64 s] w fun r w' => r = .bool (sgF X.abs s).done ∧ w = w' := by
 refine Z0o func65 rfl ntmps65 rfl ?_
 refine Z03 (Z00 (Zg (Z01 (Z02 ?_))))
 refine Zk [0, 1] ?_
 refine Z03 (Z00 (Zm ?_))
 refine Zp func67 (hasS s _) ?_
 refine Zm ?_
 apply Z47 (q := (sgF X.abs s).done = true) 7 [] rfl rfl (.cons rfl .nil) rfl rfl (fun _ => rfl) rfl rfl rfl
 ·intro hg1_3
  obtain ⟨y, hy⟩ : ∃ y, X.sg[s.toNat]? = some y := ⟨X.sg[s.toNat]'ZO, List.getElem?_eq_getElem ZO⟩
  have hsf : sgF X.abs s = y.s := by
   have := sgF_at (s := s.toNat) ZO hy
   rwa [show ((s.toNat : Nat) : Int) = s from by omega] at this
  refine Zm ?_
  refine Zm (Z0b rfl rfl rfl (Z09 Z4p rfl rfl rfl ?_))
  refine Z11 (j := s.toNat) (n := 3) rfl rfl underlying59 tz58 rfl rfl ZO ZO ?_
  refine Z09 fo58_2 rfl rfl rfl ?_
  refine Z05 (Z0r hb) mem0 rfl rfl underlying4 rfl rfl (Z3q hy 2 ZO) ?_
  refine Z0j (s := 14) (v' := .bool (decide ((sgF X.abs s).done = true))) rfl (by rw [hsf]; simp) ?_
  refine Z01 ?_
  exact Z0O rfl (.cons rfl (ZT hg1_3) .nil)
  all_goals infer_instance
 refine Zg (Z01 (Z02 ?_))
 refine Zk [4] ?_
 refine Z0i ?_
 refine Z0e results65 rfl ?_
 refine ⟨_, rfl, ?_⟩
 exact ⟨congrArg Value.bool (sgF_done _ _), rfl⟩
theorem LaidT (b : Nat) (X : Gm) (hX : X.sg.length = 41) (s : Int) (hls : ∀ (s : Nat) y, X.sg[s]? = some y → y.s.laid ≤ Z15 (s : Int)) (w : World) (hb : (As.blk b 63 (gC X)).ok w) (hr : ∀ (s : Nat) y, X.sg[s]? = some y → IK w 2 y.v ((segR (s : Int)).take y.s.laid)) :
  Z0f P 64 [.pointer (some ⟨b, 2, none⟩), .int .i64 s] w fun r w' => r = .int .i64 ((sgF X.abs s).laid : Int) ∧ w = w' := by
 refine Z0o func64 rfl ntmps64 rfl ?_
 refine Z03 (Z00 (Zg (Z01 (Z02 ?_))))
 refine Zk [0, 1] ?_
 refine Z03 (Z03 (Z00 (Zm ?_)))
 refine Zp func67 (hasS s _) ?_
 first | refine Z38 rfl rfl rfl ?_ | refine Z3v rfl rfl rfl ?_
 refine Z01 (Z02 ?_)
 refine Zk [0, 1, 7] ?_
 (first | refine Z0c rfl ?_ ?_ | refine Z08 rfl ?_ ?_) <;> intro hc0
 ·refine Z03 (Z00 (Zg (Z01 (Z02 ?_))))
  refine Zk [4] ?_
  refine Z0i ?_
  refine Z07 ?_
  refine Z0e results64 rfl ?_
  refine ⟨_, rfl, ?_⟩
  exact ⟨by rw [show sgF X.abs s = ⟨0, 0, false⟩ from if_neg (by simpa using hc0)] <;> rfl, rfl⟩
 have hin : 0 ≤ s ∧ s < 41 := by simpa using hc0
 obtain ⟨y, hy⟩ : ∃ y, X.sg[s.toNat]? = some y := ⟨X.sg[s.toNat]'ZO, List.getElem?_eq_getElem ZO⟩
 have hsf : sgF X.abs s = y.s := by
  have := sgF_at (s := s.toNat) ZO hy
  rwa [show ((s.toNat : Nat) : Int) = s from by omega] at this
 have hln : ((segR ((s.toNat : Nat) : Int)).take y.s.laid).length = y.s.laid := by
  have := hls _ _ hy
  rw [List.length_take, Z4A]; omega
 refine Z0a (Z02 ?_)
 refine Zk [0, 1] ?_
 refine Z03 (Z00 (Zm (Zm (Z0b rfl rfl rfl (Z09 Z4p rfl rfl rfl ?_)))))
 refine Z11 (j := s.toNat) (n := 3) rfl rfl underlying59 tz58 rfl rfl ZO ZO ?_
 refine Z09 Z3y rfl rfl rfl ?_
 refine Z05 (Z0r hb) mem0 rfl rfl underlying47 rfl rfl (Z3q hy 0 ZO) ?_
 refine Z1B rfl rfl underlying47 rfl (hr _ _ hy) ?_
 refine Zg (Z01 (Z02 ?_))
 refine Zk [4] ?_
 refine Z0i ?_
 refine Z0e results64 rfl ?_
 refine ⟨_, rfl, ?_⟩
 exact ⟨by rw [hln, hsf], rfl⟩
theorem RowT (b : Nat) (X : Gm) (hX : X.sg.length = 41) (s j : Nat) (hs : s < 41) (y : Sm) (hy : X.sg[s]? = some y) (hj : j < y.s.laid) (hl : y.s.laid ≤ Z15 (s : Int)) (w : World) (hb : (As.blk b 63 (gC X)).ok w) (hr : IK w 2 y.v ((segR (s : Int)).take y.s.laid)) :
  Z0f P 52 [.pointer (some ⟨b, 2, none⟩), .int .i64 (s : Int), .int .i64 (j : Int)] w fun r w' => r = Z44 (entS ((Z0M (s : Int)).1 + (j : Int))).1 ∧ Grow w w' [] := by
 refine Z0o func52 rfl ntmps52 rfl ?_
 have H0 := St.start w
 refine Z03 (Z00 ?_)
 refine Z0X H0 ta85 rfl rfl (fun b0_0 w1 H1 => ?_)
 refine Z01 (Z02 (Z03 (Z00 ?_)))
 have hrow : ((segR (s : Int)).take y.s.laid)[j]? = some (wrow (entS ((Z0M (s : Int)).1 + (j : Int))).1) := by
  rw [List.getElem?_take_of_lt hj]
  exact Z4E (s : Int) j (by have := hl; unfold Z15 at this; omega)
 have hrl := (List.getElem?_eq_some_iff.1 hrow).1
 refine Zm (Zm (Z0b rfl rfl rfl (Z09 Z4p rfl rfl rfl ?_)))
 refine Z11 (j := s) (n := 3) rfl rfl underlying59 tz58 rfl rfl rfl hs ?_
 refine Z09 Z3y rfl rfl rfl ?_
 refine Z05 (Z0r (Z0S H1 hb)) mem0 rfl rfl underlying47 rfl rfl (Z3q hy 0 ZO) ?_
 refine Zm ?_
 refine Z3J (j := j) rfl rfl underlying47 tz85 (by decide) rfl rfl (H1.ikarg hr) rfl hrl (fun A1_8 c1_8 hA1_8 => ?_)
 refine Z2w (j := j) rfl rfl underlying85 rfl tz85 rfl hA1_8 (H1.ikarg hr) hrow ?_
 refine Z0m H1 .head (.zero (.zero .nil)) rfl tz85 rfl rfl ZC (fun w2 H2 => ?_)
 refine Z01 (Z02 ?_)
 refine Zk [6] ?_
 refine Z0i ?_
 refine Z2n results52 (.cell rfl (Z0E H2 mem0 underlying85 rfl tz85 (.take (.take .nil))) .nil) ?_
 refine ⟨_, rfl, ?_⟩
 have H3 := St.del .head H2
 exact ⟨rfl, H3.grows⟩
theorem LineW (b : Nat) (m : Hm) (w : World) (hk : (As.blk m.wb 109 (wkC b m)).ok w) :
  Z0f P 54 [ptr m.wb] w fun r w' => r = .int .i64 m.h.line ∧ w = w' := by
 refine Z0o func54 rfl ntmps54 rfl ?_
 refine Z03 (Z00 (Zg (Z01 (Z02 ?_))))
 refine Zk [0] ?_
 refine Z03 (Z00 (Zm (Z0b rfl rfl rfl (Z09 Z22 rfl rfl rfl ?_))))
 refine Z05 (Z0r hk) mem0 rfl rfl underlying3 rfl rfl (rfl) ?_
 refine Zg (Z01 (Z02 ?_))
 refine Zk [2] ?_
 refine Z0i ?_
 refine Z0e results54 rfl ?_
 refine ⟨_, rfl, ?_⟩
 exact ⟨rfl, rfl⟩
theorem NextW (b : Nat) (m : Hm) (w : World) (hk : (As.blk m.wb 109 (wkC b m)).ok w) :
  Z0f P 50 [ptr m.wb] w fun r w' => r = .int .i64 (m.h.nx : Int) ∧ w = w' := by
 refine Z0o func50 rfl ntmps50 rfl ?_
 refine Z03 (Z00 (Zg (Z01 (Z02 ?_))))
 refine Zk [0] ?_
 refine Z03 (Z00 (Zm (Z0b rfl rfl rfl (Z09 Z3h rfl rfl rfl ?_))))
 refine Z05 (Z0r hk) mem0 rfl rfl underlying3 rfl rfl (rfl) ?_
 refine Zg (Z01 (Z02 ?_))
 refine Zk [2] ?_
 refine Z0i ?_
 refine Z0e results50 rfl ?_
 refine ⟨_, rfl, ?_⟩
 exact ⟨rfl, rfl⟩
theorem SegmentW (b : Nat) (m : Hm) (hnx : (m.h.line = 2 ∨ m.h.line = 3) → m.h.nx < m.h.asks.length) (w : World) (hk : (As.blk m.wb 109 (wkC b m)).ok w) (hn : IV w m.vn (ints .i64 (Z1h m.h.asks))) :
  Z0f P 55 [ptr m.wb] w fun r w' => r = .int .i64 (if m.h.line = 2 ∨ m.h.line = 3 then Z1d m.h else -1) ∧ Grow w w' [] := by
 refine Z0o func55 rfl ntmps55 rfl ?_
 have H0 := St.start w
 refine Z03 (Z00 (Zg (Z01 (Z02 ?_))))
 refine Zk [0] ?_
 refine Z03 (Z03 (Z00 (Zm (Z0b rfl rfl rfl (Z09 Z22 rfl rfl rfl ?_)))))
 refine Z05 (Z0r hk) mem0 rfl rfl underlying3 rfl rfl (rfl) ?_
 refine Ze ?_
 refine Zm ?_
 apply l_or 5 [0] rfl rfl (.cons rfl (.cons rfl .nil)) rfl rfl (fun _ => rfl) rfl rfl rfl
 ·intro hg1_6
  refine Zm (Z0b rfl rfl rfl (Z09 Z22 rfl rfl rfl ?_))
  refine Z05 (Z0r hk) mem0 rfl rfl underlying3 rfl rfl (rfl) ?_
  refine Ze ?_
  refine Z01 ?_
  exact Z0O rfl (.cons rfl (ZF hg1_6) (.cons rfl rfl .nil))
  all_goals infer_instance
 refine Z01 (Z02 ?_)
 refine Zk [0, 14] ?_
 (first | refine Z0c rfl ?_ ?_ | refine Z08 rfl ?_ ?_) <;> intro hc0
 ·refine Z03 ?_
  have H1 := H0.drewn
  have hnx := hnx (by simpa using hc0)
  have hsl : (Z1h m.h.asks).length = m.h.asks.length := Z2u _
  obtain ⟨A2, c2, hv2⟩ := (H1.iarg hn).lies (by simp; omega)
  have hsg := Z3P m.h.asks
  refine Z1a (n := 11) [Zz,Zz,Zz,Zz,Zz,Zz,Zz,Zz,Zz,Zz,Zz] (fun wS => (As.blk m.wb 109 (wkC b m)).ok wS ∧ IS wS .i64 m.vn (Z1h m.h.asks)) ZK rfl rfl ?_
  apply Zu (L' := [Zy,Zz,Zz,Zz,Zz,Zz,Zz,Zz,Zz,Zz,Zz]) 0 (⟨Z0S H1 hk, H1.iarg hn⟩)
  ·intro wS sS
   refine Zm (Z01 ?_)
   exact Z04 rfl
  refine Z0N (L' := [Zy,Zy,Zz,Zz,Zz,Zz,Zz,Zz,Zz,Zz,Zz]) 1 rfl ZK ZK ZK rfl rfl rfl (⟨Z0S H1 hk, H1.iarg hn⟩) rfl ?_
  apply Zu (L' := [Zy,Zy,Zy,Zz,Zz,Zz,Zz,Zz,Zz,Zz,Zz]) 2 (⟨Z0S H1 hk, H1.iarg hn⟩)
  ·intro wS sS
   refine Z09 Z4V rfl rfl rfl (Z01 ?_)
   exact Z04 rfl
  apply Zu (L' := [Zy,Zy,Zy,Zy,Zz,Zz,Zz,Zz,Zz,Zz,Zz]) 3 (⟨Z0S H1 hk, H1.iarg hn⟩)
  ·intro wS sS
   refine Z05 (Z0r sS.1) mem0 rfl rfl underlying34 rfl rfl rfl ?_
   refine Z01 ?_
   exact Z04 rfl
  apply Zu (L' := [Zy,Zy,Zy,Zy,Zy,Zz,Zz,Zz,Zz,Zz,Zz]) 4 (⟨Z0S H1 hk, H1.iarg hn⟩)
  ·intro wS sS
   refine Zm (Z01 ?_)
   exact Z04 rfl
  refine Z0N (L' := [Zy,Zy,Zy,Zy,Zy,Zy,Zz,Zz,Zz,Zz,Zz]) 5 rfl ZK ZK ZK rfl rfl rfl (⟨Z0S H1 hk, H1.iarg hn⟩) rfl ?_
  apply Zu (L' := [Zy,Zy,Zy,Zy,Zy,Zy,Zy,Zz,Zz,Zz,Zz]) 6 (⟨Z0S H1 hk, H1.iarg hn⟩)
  ·intro wS sS
   refine Z09 Z3h rfl rfl rfl (Z01 ?_)
   exact Z04 rfl
  apply Zu (L' := [Zy,Zy,Zy,Zy,Zy,Zy,Zy,Zy,Zz,Zz,Zz]) 7 (⟨Z0S H1 hk, H1.iarg hn⟩)
  ·intro wS sS
   refine Z05 (Z0r sS.1) mem0 rfl rfl underlying3 rfl rfl rfl ?_
   refine Z01 ?_
   exact Z04 rfl
  apply Zu (L' := [Zy,Zy,Zy,Zy,Zy,Zy,Zy,Zy,Zy,Zz,Zz]) 8 (⟨Z0S H1 hk, H1.iarg hn⟩)
  ·intro wS sS
   refine Z1c (j := m.h.nx) rfl rfl underlying34 tz3 rfl rfl hv2 ZP ZI ?_
   refine Z01 ?_
   exact Z04 rfl
  apply Zu (L' := [Zy,Zy,Zy,Zy,Zy,Zy,Zy,Zy,Zy,Zy,Zz]) 9 (⟨Z0S H1 hk, H1.iarg hn⟩)
  ·intro wS sS
   refine Z1u rfl rfl underlying3 rfl hv2 (by first | exact sS.2 | exact H1.iarg hn | assumption) ZA ZI (fun hb2_9 => ?_)
   refine Z01 ?_
   exact Z04 rfl
  apply Zu (L' := [Zy,Zy,Zy,Zy,Zy,Zy,Zy,Zy,Zy,Zy,Zy]) 10 (⟨Z0S H1 hk, H1.iarg hn⟩)
  ·intro wS sS
   refine Zg (Z01 ?_)
   exact Z04 rfl
  refine Z0B ZK ?_
  refine Z02 ?_
  refine Zk [2] ?_
  refine Z0i ?_
  refine Z07 ?_
  refine Z0e results55 rfl ?_
  refine ⟨_, rfl, ?_⟩
  refine ⟨?_, H1.grows⟩
  rw [if_pos (by simpa using hc0)]
  exact congrArg (Value.int .i64) (Z2Q hnx)
 refine Z0a (Z02 ?_)
 refine Zk [] ?_
 refine Z03 (Z00 (Zg (Z01 (Z02 ?_))))
 refine Z0i ?_
 refine Z0e results55 rfl ?_
 refine ⟨_, rfl, ?_⟩
 refine ⟨?_, H0.grows⟩
 rw [if_neg (by simpa using hc0)]
theorem MayW (b : Nat) (X : Gm) (m : Hm) (s : Nat) (hs : s < 41) (y : Sm) (hy : X.sg[s]? = some y) (hyv : y.v.oneCell' = true) (hnx : m.h.line = 1 → m.h.nx < m.h.asks.length ∧ Z1d m.h = (s : Int)) (w : World) (hb : (As.blk b 63 (gC X)).ok w) (hk : (As.blk m.wb 109 (wkC b m)).ok w) (hn : IV w m.vn (ints .i64 (Z1h m.h.asks))) :
  Z0f P 48 [ptr m.wb] w fun r w' => r = .bool (mayH m.h y.s) ∧ Grow w w' [] := by
 refine Z0o func48 rfl ntmps48 rfl ?_
 have H0 := St.start w
 refine Z03 (Z00 (Zg (Z01 (Z02 ?_))))
 refine Zk [0] ?_
 refine Z03 (Z03 (Z00 (Zm (Z0b rfl rfl rfl (Z09 Z22 rfl rfl rfl ?_)))))
 refine Z05 (Z0r hk) mem0 rfl rfl underlying3 rfl rfl (rfl) ?_
 refine Z01 (Z02 ?_)
 refine Zk [0, 7] ?_
 refine Z0d (Z03 (Z00 ?_))
 refine Ze ?_
 refine Zg (Z01 (Z02 ?_))
 refine Zk [0, 7, 8] ?_
 (first | refine Z0c rfl ?_ ?_ | refine Z08 rfl ?_ ?_) <;> intro hc0
 ·refine Z03 ?_
  have H1 := H0.drewn
  obtain ⟨hnx, hwn⟩ := hnx (by simpa using hc0)
  have hsl : (Z1h m.h.asks).length = m.h.asks.length := Z2u _
  have hwt : (Z1h m.h.asks).getD m.h.nx 0 = (s : Int) := by rw [Z2Q hnx]; exact hwn
  obtain ⟨A3, c3, hv3⟩ := (H1.iarg hn).lies (by simp; omega)
  have hsg := Z3P m.h.asks
  refine Z1a (n := 20) [Zz,Zz,Zz,Zz,Zz,Zz,Zz,Zz,Zz,Zz,Zz,Zz,Zz,Zz,Zz,Zz,Zz,Zz,Zz,Zz] (fun wS => (As.blk b 63 (gC X)).ok wS ∧ (As.blk m.wb 109 (wkC b m)).ok wS ∧ IS wS .i64 m.vn (Z1h m.h.asks)) ZK rfl rfl ?_
  apply Zu (L' := [Zy,Zz,Zz,Zz,Zz,Zz,Zz,Zz,Zz,Zz,Zz,Zz,Zz,Zz,Zz,Zz,Zz,Zz,Zz,Zz]) 0 (⟨Z0S H1 hb, Z0S H1 hk, H1.iarg hn⟩)
  ·intro wS sS
   refine Zm (Z01 ?_)
   exact Z04 rfl
  refine Z0N (L' := [Zy,Zy,Zz,Zz,Zz,Zz,Zz,Zz,Zz,Zz,Zz,Zz,Zz,Zz,Zz,Zz,Zz,Zz,Zz,Zz]) 1 rfl ZK ZK ZK rfl rfl rfl (⟨Z0S H1 hb, Z0S H1 hk, H1.iarg hn⟩) rfl ?_
  apply Zu (L' := [Zy,Zy,Zy,Zz,Zz,Zz,Zz,Zz,Zz,Zz,Zz,Zz,Zz,Zz,Zz,Zz,Zz,Zz,Zz,Zz]) 2 (⟨Z0S H1 hb, Z0S H1 hk, H1.iarg hn⟩)
  ·intro wS sS
   refine Z09 fo109_0 rfl rfl rfl (Z01 ?_)
   exact Z04 rfl
  apply Zu (L' := [Zy,Zy,Zy,Zy,Zz,Zz,Zz,Zz,Zz,Zz,Zz,Zz,Zz,Zz,Zz,Zz,Zz,Zz,Zz,Zz]) 3 (⟨Z0S H1 hb, Z0S H1 hk, H1.iarg hn⟩)
  ·intro wS sS
   refine Z05 (Z0r sS.2.1) mem0 rfl rfl underlying96 rfl rfl rfl ?_
   refine Z01 ?_
   exact Z04 rfl
  refine Z0N (L' := [Zy,Zy,Zy,Zy,Zz,Zz,Zz,Zz,Zz,Zz,Zz,Zz,Zz,Zz,Zy,Zz,Zz,Zz,Zz,Zz]) 14 rfl ZK ZK ZK rfl rfl rfl (⟨Z0S H1 hb, Z0S H1 hk, H1.iarg hn⟩) rfl ?_
  apply Zu (L' := [Zy,Zy,Zy,Zy,Zy,Zz,Zz,Zz,Zz,Zz,Zz,Zz,Zz,Zz,Zy,Zz,Zz,Zz,Zz,Zz]) 4 (⟨Z0S H1 hb, Z0S H1 hk, H1.iarg hn⟩)
  ·intro wS sS
   refine Zm (Z01 ?_)
   exact Z04 rfl
  refine Z0N (L' := [Zy,Zy,Zy,Zy,Zy,Zy,Zz,Zz,Zz,Zz,Zz,Zz,Zz,Zz,Zy,Zz,Zz,Zz,Zz,Zz]) 5 rfl ZK ZK ZK rfl rfl rfl (⟨Z0S H1 hb, Z0S H1 hk, H1.iarg hn⟩) rfl ?_
  apply Zu (L' := [Zy,Zy,Zy,Zy,Zy,Zy,Zy,Zz,Zz,Zz,Zz,Zz,Zz,Zz,Zy,Zz,Zz,Zz,Zz,Zz]) 6 (⟨Z0S H1 hb, Z0S H1 hk, H1.iarg hn⟩)
  ·intro wS sS
   refine Z09 Z4V rfl rfl rfl (Z01 ?_)
   exact Z04 rfl
  apply Zu (L' := [Zy,Zy,Zy,Zy,Zy,Zy,Zy,Zy,Zz,Zz,Zz,Zz,Zz,Zz,Zy,Zz,Zz,Zz,Zz,Zz]) 7 (⟨Z0S H1 hb, Z0S H1 hk, H1.iarg hn⟩)
  ·intro wS sS
   refine Z05 (Z0r sS.2.1) mem0 rfl rfl underlying34 rfl rfl rfl ?_
   refine Z01 ?_
   exact Z04 rfl
  apply Zu (L' := [Zy,Zy,Zy,Zy,Zy,Zy,Zy,Zy,Zy,Zz,Zz,Zz,Zz,Zz,Zy,Zz,Zz,Zz,Zz,Zz]) 8 (⟨Z0S H1 hb, Z0S H1 hk, H1.iarg hn⟩)
  ·intro wS sS
   refine Zm (Z01 ?_)
   exact Z04 rfl
  refine Z0N (L' := [Zy,Zy,Zy,Zy,Zy,Zy,Zy,Zy,Zy,Zy,Zz,Zz,Zz,Zz,Zy,Zz,Zz,Zz,Zz,Zz]) 9 rfl ZK ZK ZK rfl rfl rfl (⟨Z0S H1 hb, Z0S H1 hk, H1.iarg hn⟩) rfl ?_
  apply Zu (L' := [Zy,Zy,Zy,Zy,Zy,Zy,Zy,Zy,Zy,Zy,Zy,Zz,Zz,Zz,Zy,Zz,Zz,Zz,Zz,Zz]) 10 (⟨Z0S H1 hb, Z0S H1 hk, H1.iarg hn⟩)
  ·intro wS sS
   refine Z09 Z3h rfl rfl rfl (Z01 ?_)
   exact Z04 rfl
  apply Zu (L' := [Zy,Zy,Zy,Zy,Zy,Zy,Zy,Zy,Zy,Zy,Zy,Zy,Zz,Zz,Zy,Zz,Zz,Zz,Zz,Zz]) 11 (⟨Z0S H1 hb, Z0S H1 hk, H1.iarg hn⟩)
  ·intro wS sS
   refine Z05 (Z0r sS.2.1) mem0 rfl rfl underlying3 rfl rfl rfl ?_
   refine Z01 ?_
   exact Z04 rfl
  apply Zu (L' := [Zy,Zy,Zy,Zy,Zy,Zy,Zy,Zy,Zy,Zy,Zy,Zy,Zy,Zz,Zy,Zz,Zz,Zz,Zz,Zz]) 12 (⟨Z0S H1 hb, Z0S H1 hk, H1.iarg hn⟩)
  ·intro wS sS
   refine Z1c (j := m.h.nx) rfl rfl underlying34 tz3 rfl rfl hv3 ZP ZI ?_
   refine Z01 ?_
   exact Z04 rfl
  apply Zu (L' := [Zy,Zy,Zy,Zy,Zy,Zy,Zy,Zy,Zy,Zy,Zy,Zy,Zy,Zy,Zy,Zz,Zz,Zz,Zz,Zz]) 13 (⟨Z0S H1 hb, Z0S H1 hk, H1.iarg hn⟩)
  ·intro wS sS
   refine Z1u rfl rfl underlying3 rfl hv3 (by first | exact sS.2.2 | exact H1.iarg hn | assumption) ZA ZI (fun hb3_13 => ?_)
   refine Z01 ?_
   exact Z04 rfl
  apply Zu (L' := [Zy,Zy,Zy,Zy,Zy,Zy,Zy,Zy,Zy,Zy,Zy,Zy,Zy,Zy,Zy,Zy,Zz,Zz,Zz,Zz]) 15 (⟨Z0S H1 hb, Z0S H1 hk, H1.iarg hn⟩)
  ·intro wS sS
   refine Z09 Z4p rfl rfl rfl (Z01 ?_)
   exact Z04 rfl
  apply Zu (L' := [Zy,Zy,Zy,Zy,Zy,Zy,Zy,Zy,Zy,Zy,Zy,Zy,Zy,Zy,Zy,Zy,Zy,Zz,Zz,Zz]) 16 (⟨Z0S H1 hb, Z0S H1 hk, H1.iarg hn⟩)
  ·intro wS sS
   refine Z11 (j := s) (n := 3) rfl rfl underlying59 tz58 rfl rfl ZO hs ?_
   refine Z01 ?_
   exact Z04 rfl
  apply Zu (L' := [Zy,Zy,Zy,Zy,Zy,Zy,Zy,Zy,Zy,Zy,Zy,Zy,Zy,Zy,Zy,Zy,Zy,Zy,Zz,Zz]) 17 (⟨Z0S H1 hb, Z0S H1 hk, H1.iarg hn⟩)
  ·intro wS sS
   refine Z1b (Z0r sS.1) mem0 rfl rfl underlying58 rfl tz58 rfl (win_of (by decide) rfl fun i hi => Z3q hy i hi) ?_
   refine Z01 ?_
   exact Z04 rfl
  refine Z0v (L' := [Zy,Zy,Zy,Zy,Zy,Zy,Zy,Zy,Zy,Zy,Zy,Zy,Zy,Zy,Zy,Zy,Zy,Zy,Zy,Zz]) 18 ZK rfl rfl ?_
  refine Z0X H1 ta58 rfl rfl (fun b3_18 w2 H2 => ?_)
  refine Z01 ?_
  refine Z0n (⟨Z0S H2 hb, Z0S H2 hk, H2.iarg hn⟩) ?_
  refine Z0v (L' := [Zy,Zy,Zy,Zy,Zy,Zy,Zy,Zy,Zy,Zy,Zy,Zy,Zy,Zy,Zy,Zy,Zy,Zy,Zy,Zy]) 19 ZK rfl rfl ?_
  refine Z0m H2 .head (.zero (.zero (.zero .nil))) rfl tz58 rfl rfl ZC (fun w3 H3 => ?_)
  refine Z01 ?_
  refine Z0n (⟨Z0S H3 hb, Z0S H3 hk, H3.iarg hn⟩) ?_
  refine Z0B ZK ?_
  refine Z02 ?_
  refine Zk [3] ?_
  refine Z03 (Z00 (Z09 fo58_2 rfl rfl rfl ?_))
  refine Z05 H3 mem0 rfl rfl underlying4 rfl rfl rfl ?_
  refine Z0j (s := 29) (v' := .bool (decide (y.s.done = true))) rfl (by simp) ?_
  refine Zm ?_
  apply l_or 3 [] rfl rfl (.cons rfl .nil) rfl rfl (fun _ => rfl) rfl rfl rfl
  ·intro hg4_3
   refine Z09 fo58_1 rfl rfl rfl ?_
   refine Z05 H3 mem0 rfl rfl underlying3 rfl rfl rfl ?_
   refine Ze ?_
   refine Z01 ?_
   exact Z0O rfl (.cons rfl (ZF hg4_3) .nil)
   all_goals infer_instance
  refine Zg (Z01 (Z02 ?_))
  refine Zk [2] ?_
  refine Z0i ?_
  refine Z0k ?_
  refine Z07 ?_
  refine Z0e results48 rfl ?_
  refine ⟨_, rfl, ?_⟩
  have H4 := St.del .head H3
  refine ⟨congrArg Value.bool ?_, H4.grows⟩
  unfold mayH
  simp at *
  first | (simp_all; done) | (simp_all; omega)
 refine Z03 (Z03 (Z00 ?_))
 refine Ze ?_
 refine Zg (Z01 (Z02 ?_))
 refine Zk [7, 35] ?_
 (first | refine Z0c rfl ?_ ?_ | refine Z08 rfl ?_ ?_) <;> intro hc1
 ·refine Z0a (Z02 ?_)
  refine Zk [35] ?_
  (first | refine Z0c rfl ?_ ?_ | refine Z08 rfl ?_ ?_) <;> intro hc2
  ·refine Z03 (Z00 (Zg (Z01 (Z02 ?_))))
   refine Zk [2] ?_
   refine Z0i ?_
   refine Z0k ?_
   refine Z07 ?_
   refine Z0e results48 rfl ?_
   refine ⟨_, rfl, ?_⟩
   refine ⟨congrArg Value.bool ?_, H0.grows⟩
   unfold mayH
   simp at *
   first | (simp_all; done) | (simp_all; omega)
  refine Z0a ?_
  refine Z0F ?_
  refine Z02 ?_
  refine Zk [] ?_
  refine Z03 (Z00 (Zg (Z01 (Z02 ?_))))
  refine Z0i ?_
  refine Z0e results48 rfl ?_
  refine ⟨_, rfl, ?_⟩
  refine ⟨congrArg Value.bool ?_, H0.grows⟩
  unfold mayH
  simp at *
  first | (simp_all; done) | (simp_all; omega)
 refine Z00 ?_
 refine Ze ?_
 refine Zg (Z01 (Z02 ?_))
 refine Zk [35] ?_
 (first | refine Z0c rfl ?_ ?_ | refine Z08 rfl ?_ ?_) <;> intro hc3
 ·refine Z03 (Z00 (Zg (Z01 (Z02 ?_))))
  refine Zk [2] ?_
  refine Z0i ?_
  refine Z0k ?_
  refine Z07 ?_
  refine Z0e results48 rfl ?_
  refine ⟨_, rfl, ?_⟩
  refine ⟨congrArg Value.bool ?_, H0.grows⟩
  unfold mayH
  simp at *
  first | (simp_all; done) | (simp_all; omega)
 refine Z0a ?_
 refine Z0F ?_
 refine Z02 ?_
 refine Zk [] ?_
 refine Z03 (Z00 (Zg (Z01 (Z02 ?_))))
 refine Z0i ?_
 refine Z0e results48 rfl ?_
 refine ⟨_, rfl, ?_⟩
 refine ⟨congrArg Value.bool ?_, H0.grows⟩
 unfold mayH
 simp at *
 first | (simp_all; done) | (simp_all; omega)
theorem setAt_o : ∀ {cs : List Value} {o : Nat} (h : o < cs.length) (x : Value), Z1F cs o x (cs.set o x)
 | c :: cs, 0, _, x => .zero
 | c :: cs, o + 1, h, x => .succ (setAt_o (cs := cs) (o := o) (by simpa using h) x)
theorem gC_len {X : Gm} : (gC X).length = X.sg.length * 3 + 3 := by
 have hl := Z33 (X.sg.map segC) (Z2X _)
 rw [List.length_map] at hl
 unfold gC
 simp only [List.length_cons, List.length_append, List.length_nil]
 omega
theorem Z2Z {X : Gm} {s : Nat} {y : Sm} (y' : Sm) {v : Value} (h : X.sg[s]? = some y) (i : Nat) (hi : i < 3) (he : (segC y).set i v = segC y') : Z1F (gC X) (2 + s * 3 + i) v (gC { X with sg := X.sg.set s y' }) := by
 have hs := (List.getElem?_eq_some_iff.1 h).1
 rw [← gC_set h i hi he]
 exact setAt_o (by rw [gC_len]; omega) v
abbrev wkR (b : Nat) (X : Gm) (m : Hm) (s : Nat) (y : Sm) : List As := [As.blk b 63 (gC X), As.blk m.wb 109 (wkC b m), As.ri 3 .i64 m.vn (Z1h m.h.asks), As.rk 85 2 m.vt (takR m.h.tk), srow s y]
abbrev mSt (s : Nat) (m : Hm) (y : Sm) (vt : Value) : Hm := { m with h := (Z0G (s : Int) m.h y.s).1, vt := vt }
abbrev ySt (s : Nat) (m : Hm) (y : Sm) (v : Value) : Sm := ⟨(Z0G (s : Int) m.h y.s).2, v⟩
theorem Z1O {w : World} {E : TypeId} {k : Nat} {v : Value} {rs : List (List Value)} (h : (As.rk E k v rs).ok w) : v.oneCell' = true := by
 have h : Own w E k v rs.length rs.flatten := h
 rcases h.2 with ⟨rfl, _⟩ | ⟨g, off, cap, cur, rfl, _⟩ <;> rfl
structure WkOk (s : Nat) (h : Hd) (y : Sg) : Prop where
 line : h.line = 1 ∨ h.line = 2 ∨ h.line = 3
 nx : h.nx < h.asks.length
 want : Z1d h = (s : Int)
 tk : h.line = 2 → h.tk = (s : Int) ∧ y.laid < Z15 (s : Int)
 bl : 0 ≤ y.built ∧ y.built ≤ 1
 al : h.asks.length ≤ 64
 one : h.line = 1 → y.done = true ∨ y.built = 0
theorem set_at {α : Type} {L : List α} {i : Nat} {x y : α} (h : L[i]? = some x) : (L.set i y)[i]? = some y := by
 have := (List.getElem?_eq_some_iff.1 h).1
 simp [this]
section
variable {P : Program} {N : Nat} {Q : Z26} {ρ : Env} {w : World} {ops : Array Oper} {rest : List Oper} {d : Nat} {ty : TypeId} {pos : String} {af : Array Edge} {g : Option (Nat × Bool)} {k : Nat} {v : Value} {rs : List (List Value)}
theorem Z1s {x ix : Operand} {ki : IntKind} {i : Int} {j n c : Nat} {ad : Addr} {T e : TypeId} (hg : Z0t ops ρ g = true) (hN : Nat.blt d N = true) (hT : P.underlying T = some (.slice e)) (hsz : (P.info? e).map (·.size) = some k) (hk : 0 < k)
  (hx : Z0g ρ x = some v) (hi : Z0g ρ ix = some (.int ki i)) (h : IK w k v rs) (hv : v = .slice (some ad) n c) (hij : i = (j : Int)) (hb : j < rs.length)
  (nx : RunL P N ops Q rest ((d, .pointer (some (ad.add (j * k)))) :: ρ) w) : RunL P N ops Q (⟨some d, .indexAddr T x ix, ty, pos, af, g⟩ :: rest) ρ w :=
 Z3J hg hN hT hsz hk hx hi h hij hb fun ad' c' e => by
  rw [hv] at e
  injection e with e1
  injection e1 with e1
  subst e1
  exact nx
end
theorem Z3Q {s : Nat} {n : Nat} (h : n < Z15 (s : Int)) : (segR (s : Int)).take n ++ [wrow (entS ((Z0M (s : Int)).1 + (n : Int))).1] = (segR (s : Int)).take (n + 1) := by
 rw [List.take_add_one, Z4E (s : Int) n h]
 rfl
theorem Z42 (s : Int) : Z15 s ≤ 16 := by
 unfold Z15 Z0M
 split <;> simp
 split <;> simp
theorem Z1R (s : Int) (n : Nat) : Z1g 2 ((segR s).take n) := fun r hr => segR_rows s r (List.mem_of_mem_take hr)
theorem Z0q (s : Int) : Z1g 2 (takR s) := by
 unfold takR
 split
 ·exact fun _ h => nomatch h
 exact segR_rows s
theorem Z4B (s : Nat) : takR (s : Int) = segR (s : Int) := if_neg (by omega)
theorem DoW (b : Nat) (X : Gm) (m : Hm) (s : Nat) (hs : s < 41) (y : Sm) (hy : X.sg[s]? = some y) (hok : WkOk s m.h y.s) (w : World) (hS : Sep w.heap.size (fps (wkR b X m s y)) w (wkR b X m s y)) :
  Z0f P 51 [ptr m.wb] w fun r w' => ∃ vt v, r = .bool (decide (m.h.line = 1) && y.s.done) ∧ Z1C w w' (wkR b X m s y) (wkR b { X with sg := X.sg.set s (ySt s m y v) } (mSt s m y vt) s (ySt s m y v)) := by
 refine Z0o func51 rfl ntmps51 rfl ?_
 have H0 : St w w.heap.size (fps (wkR b X m s y)) (wkR b X m s y) w := St.startS hS
 obtain ⟨hln, hnx, hwn, htk, hbl, has, hone⟩ := hok
 have hsl : (Z1h m.h.asks).length = m.h.asks.length := Z2u _
 have hwt : (Z1h m.h.asks).getD m.h.nx 0 = (s : Int) := by rw [Z2Q hnx]; exact hwn
 have hyv : y.v.oneCell' = true := Z1O ((St.startS hS).ok (.tail _ (.tail _ (.tail _ (.tail _ (.head _))))))
 refine Z03 (Z00 (Zg (Z01 (Z02 ?_))))
 refine Zk [0] ?_
 refine Z03 ?_
 have H1 := H0.drewn
 obtain ⟨A1, c1, hv1⟩ := (H1.io mem2).lies (by simp; omega)
 have hsg := Z3P m.h.asks
 refine Z1a (n := 11) [Zz,Zz,Zz,Zz,Zz,Zz,Zz,Zz,Zz,Zz,Zz] (fun wS => (As.blk m.wb 109 (wkC b m)).ok wS ∧ IS wS .i64 m.vn (Z1h m.h.asks)) ZK rfl rfl ?_
 apply Zu (L' := [Zy,Zz,Zz,Zz,Zz,Zz,Zz,Zz,Zz,Zz,Zz]) 0 (⟨H1.ok mem1, H1.io mem2⟩)
 ·intro wS sS
  refine Zm (Z01 ?_)
  exact Z04 rfl
 refine Z0N (L' := [Zy,Zy,Zz,Zz,Zz,Zz,Zz,Zz,Zz,Zz,Zz]) 1 rfl ZK ZK ZK rfl rfl rfl (⟨H1.ok mem1, H1.io mem2⟩) rfl ?_
 apply Zu (L' := [Zy,Zy,Zy,Zz,Zz,Zz,Zz,Zz,Zz,Zz,Zz]) 2 (⟨H1.ok mem1, H1.io mem2⟩)
 ·intro wS sS
  refine Z09 Z4V rfl rfl rfl (Z01 ?_)
  exact Z04 rfl
 apply Zu (L' := [Zy,Zy,Zy,Zy,Zz,Zz,Zz,Zz,Zz,Zz,Zz]) 3 (⟨H1.ok mem1, H1.io mem2⟩)
 ·intro wS sS
  refine Z05 (Z0r sS.1) mem0 rfl rfl underlying34 rfl rfl rfl ?_
  refine Z01 ?_
  exact Z04 rfl
 apply Zu (L' := [Zy,Zy,Zy,Zy,Zy,Zz,Zz,Zz,Zz,Zz,Zz]) 4 (⟨H1.ok mem1, H1.io mem2⟩)
 ·intro wS sS
  refine Zm (Z01 ?_)
  exact Z04 rfl
 refine Z0N (L' := [Zy,Zy,Zy,Zy,Zy,Zy,Zz,Zz,Zz,Zz,Zz]) 5 rfl ZK ZK ZK rfl rfl rfl (⟨H1.ok mem1, H1.io mem2⟩) rfl ?_
 apply Zu (L' := [Zy,Zy,Zy,Zy,Zy,Zy,Zy,Zz,Zz,Zz,Zz]) 6 (⟨H1.ok mem1, H1.io mem2⟩)
 ·intro wS sS
  refine Z09 Z3h rfl rfl rfl (Z01 ?_)
  exact Z04 rfl
 apply Zu (L' := [Zy,Zy,Zy,Zy,Zy,Zy,Zy,Zy,Zz,Zz,Zz]) 7 (⟨H1.ok mem1, H1.io mem2⟩)
 ·intro wS sS
  refine Z05 (Z0r sS.1) mem0 rfl rfl underlying3 rfl rfl rfl ?_
  refine Z01 ?_
  exact Z04 rfl
 apply Zu (L' := [Zy,Zy,Zy,Zy,Zy,Zy,Zy,Zy,Zy,Zz,Zz]) 8 (⟨H1.ok mem1, H1.io mem2⟩)
 ·intro wS sS
  refine Z1c (j := m.h.nx) rfl rfl underlying34 tz3 rfl rfl hv1 ZP ZI ?_
  refine Z01 ?_
  exact Z04 rfl
 apply Zu (L' := [Zy,Zy,Zy,Zy,Zy,Zy,Zy,Zy,Zy,Zy,Zz]) 9 (⟨H1.ok mem1, H1.io mem2⟩)
 ·intro wS sS
  refine Z1u rfl rfl underlying3 rfl hv1 (by first | exact sS.2 | exact H1.ibl mem0 | exact H1.ibl mem1 | exact H1.io mem2 | exact H1.ik ZA mem3 | exact H1.ik ZA mem4 | assumption) ZA ZI (fun hb1_9 => ?_)
  refine Z01 ?_
  exact Z04 rfl
 apply Zu (L' := [Zy,Zy,Zy,Zy,Zy,Zy,Zy,Zy,Zy,Zy,Zy]) 10 (⟨H1.ok mem1, H1.io mem2⟩)
 ·intro wS sS
  refine Zg (Z01 ?_)
  exact Z04 rfl
 refine Z0B ZK ?_
 refine Z02 ?_
 refine Zk [0, 3] ?_
 refine Z03 (Z00 ?_)
 refine Z0j (s := 3) (v' := .int .i64 (s : Int)) rfl (congrArg (Value.int .i64) hwt) ?_
 refine Zm (Z0b rfl rfl rfl (Z09 fo109_0 rfl rfl rfl ?_))
 refine Z05 H1 mem1 rfl rfl underlying96 rfl rfl rfl ?_
 refine Zm (Z0b rfl rfl rfl (Z09 Z4p rfl rfl rfl ?_))
 refine Z11 (j := s) (n := 3) rfl rfl underlying59 tz58 rfl rfl rfl hs ?_
 refine Zg (Z01 (Z02 ?_))
 refine Zk [0, 3, 4] ?_
 refine Z03 (Z0d (Z03 (Z00 (Zm (Z0b rfl rfl rfl (Z09 Z22 rfl rfl rfl ?_))))))
 refine Z05 H1 mem1 rfl rfl underlying3 rfl rfl rfl ?_
 refine Ze ?_
 refine Zg (Z01 (Z02 ?_))
 refine Zk [0, 3, 4, 43] ?_
 (first | refine Z0c rfl ?_ ?_ | refine Z08 rfl ?_ ?_) <;> intro hc0
 ·obtain ⟨htk, hl2⟩ := htk hc0
  have hsl16 := Z42 (s : Int)
  have hel : (takR m.h.tk)[y.s.laid]? = some (wrow (entS ((Z0M (s : Int)).1 + (y.s.laid : Int))).1) := by
   rw [htk, Z4B]
   exact Z4E (s : Int) y.s.laid hl2
  have hell := (List.getElem?_eq_some_iff.1 hel).1
  have hl8 : ((segR (s : Int)).take y.s.laid).length = y.s.laid := by rw [List.length_take, Z4A]; omega
  have hl9 : ((segR (s : Int)).take (y.s.laid + 1)).length = y.s.laid + 1 := by rw [List.length_take, Z4A]; omega
  have hlt : (takR m.h.tk).length = Z15 (s : Int) := by rw [htk, Z4B, Z4A]
  refine Z1q (ι := Value) (fun (v8 : Value) (w' : World) => St w w.heap.size (fps (wkR b X m s y)) ([As.blk b 63 (gC { X with sg := X.sg.set s (⟨{ y.s with laid := y.s.laid + 1 }, v8⟩ : Sm) }), As.blk m.wb 109 (wkC b m), As.ri 3 .i64 m.vn (Z1h m.h.asks), As.rk 85 2 m.vt (takR m.h.tk), srow s ⟨{ y.s with laid := y.s.laid + 1 }, v8⟩]) w' ∧ True) (fun (v8 : Value) => []) [0, 4] (.cons rfl (.cons rfl .nil)) ?_ ?_
  ·have H2 := H1.drewn
   obtain ⟨A8, c8, hA8⟩ : ∃ A c, m.vt = .slice (some A) (takR m.h.tk).length c := by
    obtain ⟨_, A, c, e, _, hs⟩ := Own.ik (Z0q _) (H2.ok mem3)
    obtain ⟨ad, rfl⟩ := hs.some_ (by rw [(Z0q _).len]; omega)
    exact ⟨ad, c, e⟩
   refine Z1a (n := 21) [Zz,Zz,Zz,Zz,Zz,Zz,Zz,Zz,Zz,Zz,Zz,Zz,Zz,Zz,Zz,Zz,Zz,Zz,Zz,Zz,Zz] (fun wS => (As.blk m.wb 109 (wkC b m)).ok wS ∧ IK wS 2 m.vt (takR m.h.tk)) ZK rfl rfl ?_
   apply Zu (L' := [Zy,Zz,Zz,Zz,Zz,Zz,Zz,Zz,Zz,Zz,Zz,Zz,Zz,Zz,Zz,Zz,Zz,Zz,Zz,Zz,Zz]) 0 (⟨H2.ok mem1, Own.ik (Z0q _) (H2.ok mem3)⟩)
   ·intro wS sS
    refine Zm (Z01 ?_)
    exact Z04 rfl
   apply Zu (L' := [Zy,Zy,Zz,Zz,Zz,Zz,Zz,Zz,Zz,Zz,Zz,Zz,Zz,Zz,Zz,Zz,Zz,Zz,Zz,Zz,Zz]) 1 (⟨H2.ok mem1, Own.ik (Z0q _) (H2.ok mem3)⟩)
   ·intro wS sS
    refine Zm (Z01 ?_)
    exact Z04 rfl
   refine Z0N (L' := [Zy,Zy,Zy,Zz,Zz,Zz,Zz,Zz,Zz,Zz,Zz,Zz,Zz,Zz,Zz,Zz,Zz,Zz,Zz,Zz,Zz]) 2 rfl ZK ZK ZK rfl rfl rfl (⟨H2.ok mem1, Own.ik (Z0q _) (H2.ok mem3)⟩) rfl ?_
   apply Zu (L' := [Zy,Zy,Zy,Zy,Zz,Zz,Zz,Zz,Zz,Zz,Zz,Zz,Zz,Zz,Zz,Zz,Zz,Zz,Zz,Zz,Zz]) 3 (⟨H2.ok mem1, Own.ik (Z0q _) (H2.ok mem3)⟩)
   ·intro wS sS
    refine Z09 Z3y rfl rfl rfl (Z01 ?_)
    exact Z04 rfl
   apply Zu (L' := [Zy,Zy,Zy,Zy,Zz,Zy,Zz,Zz,Zz,Zz,Zz,Zz,Zz,Zz,Zz,Zz,Zz,Zz,Zz,Zz,Zz]) 5 (⟨H2.ok mem1, Own.ik (Z0q _) (H2.ok mem3)⟩)
   ·intro wS sS
    refine Zm (Z01 ?_)
    exact Z04 rfl
   refine Z0N (L' := [Zy,Zy,Zy,Zy,Zz,Zy,Zy,Zz,Zz,Zz,Zz,Zz,Zz,Zz,Zz,Zz,Zz,Zz,Zz,Zz,Zz]) 6 rfl ZK ZK ZK rfl rfl rfl (⟨H2.ok mem1, Own.ik (Z0q _) (H2.ok mem3)⟩) rfl ?_
   apply Zu (L' := [Zy,Zy,Zy,Zy,Zz,Zy,Zy,Zy,Zz,Zz,Zz,Zz,Zz,Zz,Zz,Zz,Zz,Zz,Zz,Zz,Zz]) 7 (⟨H2.ok mem1, Own.ik (Z0q _) (H2.ok mem3)⟩)
   ·intro wS sS
    refine Z09 fo109_4 rfl rfl rfl (Z01 ?_)
    exact Z04 rfl
   apply Zu (L' := [Zy,Zy,Zy,Zy,Zz,Zy,Zy,Zy,Zy,Zz,Zz,Zz,Zz,Zz,Zz,Zz,Zz,Zz,Zz,Zz,Zz]) 8 (⟨H2.ok mem1, Own.ik (Z0q _) (H2.ok mem3)⟩)
   ·intro wS sS
    refine Z05 (Z0r sS.1) mem0 rfl rfl underlying47 rfl rfl rfl ?_
    refine Z01 ?_
    exact Z04 rfl
   apply Zu (L' := [Zy,Zy,Zy,Zy,Zz,Zy,Zy,Zy,Zy,Zy,Zz,Zz,Zz,Zz,Zz,Zz,Zz,Zz,Zz,Zz,Zz]) 9 (⟨H2.ok mem1, Own.ik (Z0q _) (H2.ok mem3)⟩)
   ·intro wS sS
    refine Zm (Z01 ?_)
    exact Z04 rfl
   refine Z0N (L' := [Zy,Zy,Zy,Zy,Zz,Zy,Zy,Zy,Zy,Zy,Zy,Zz,Zz,Zz,Zz,Zz,Zz,Zz,Zz,Zz,Zz]) 10 rfl ZK ZK ZK rfl rfl rfl (⟨H2.ok mem1, Own.ik (Z0q _) (H2.ok mem3)⟩) rfl ?_
   apply Zu (L' := [Zy,Zy,Zy,Zy,Zz,Zy,Zy,Zy,Zy,Zy,Zy,Zy,Zz,Zz,Zz,Zz,Zz,Zz,Zz,Zz,Zz]) 11 (⟨H2.ok mem1, Own.ik (Z0q _) (H2.ok mem3)⟩)
   ·intro wS sS
    refine Z09 Z3y rfl rfl rfl (Z01 ?_)
    exact Z04 rfl
   refine Z2B (L' := [Zy,Zy,Zy,Zy,Zy,Zy,Zy,Zy,Zy,Zy,Zy,Zy,Zz,Zz,Zz,Zz,Zz,Zz,Zz,Zz,Zz]) (L'' := [Zy,Zy,Zy,Zy,Zz,Zy,Zy,Zy,Zy,Zy,Zy,Zy,Zy,Zz,Zz,Zz,Zz,Zz,Zz,Zz,Zz]) 4 12 ZK rfl rfl rfl rfl ?_ ?_
   ·refine Z05 H2 mem0 rfl rfl underlying47 rfl rfl (Z3q hy 0 ZO) ?_
    refine Z01 ?_
    refine Z0n (⟨H2.ok mem1, Own.ik (Z0q _) (H2.ok mem3)⟩) ?_
    refine Z0v (L' := [Zy,Zy,Zy,Zy,Zy,Zy,Zy,Zy,Zy,Zy,Zy,Zy,Zy,Zz,Zz,Zz,Zz,Zz,Zz,Zz,Zz]) 12 ZK rfl rfl ?_
    refine Z05 H2 mem0 rfl rfl underlying47 rfl rfl (Z3q hy 0 ZO) ?_
    refine Z01 ?_
    refine Z0n (⟨H2.ok mem1, Own.ik (Z0q _) (H2.ok mem3)⟩) ?_
    refine Z0v (L' := [Zy,Zy,Zy,Zy,Zy,Zy,Zy,Zy,Zy,Zy,Zy,Zy,Zy,Zy,Zz,Zz,Zz,Zz,Zz,Zz,Zz]) 13 ZK rfl rfl ?_
    refine Z1B rfl rfl underlying47 rfl (Own.ik (Z1R _ _) (H2.ok mem4)) ?_
    refine Z01 ?_
    refine Z0n (⟨H2.ok mem1, Own.ik (Z0q _) (H2.ok mem3)⟩) ?_
    apply Zu (L' := [Zy,Zy,Zy,Zy,Zy,Zy,Zy,Zy,Zy,Zy,Zy,Zy,Zy,Zy,Zy,Zz,Zz,Zz,Zz,Zz,Zz]) 14 (⟨H2.ok mem1, Own.ik (Z0q _) (H2.ok mem3)⟩)
    ·intro wS sS
     refine Z1s (j := y.s.laid) rfl rfl underlying47 tz85 (by decide) rfl rfl sS.2 hA8 (by rw [hl8]) hell ?_
     refine Z01 ?_
     exact Z04 rfl
    apply Zu (L' := [Zy,Zy,Zy,Zy,Zy,Zy,Zy,Zy,Zy,Zy,Zy,Zy,Zy,Zy,Zy,Zy,Zz,Zz,Zz,Zz,Zz]) 15 (⟨H2.ok mem1, Own.ik (Z0q _) (H2.ok mem3)⟩)
    ·intro wS sS
     refine Z2w (j := y.s.laid) rfl rfl underlying85 rfl tz85 rfl hA8 sS.2 hel ?_
     refine Z01 ?_
     exact Z04 rfl
    refine Z0v (L' := [Zy,Zy,Zy,Zy,Zy,Zy,Zy,Zy,Zy,Zy,Zy,Zy,Zy,Zy,Zy,Zy,Zy,Zz,Zz,Zz,Zz]) 16 ZK rfl rfl ?_
    refine Z2t H2 rfl rfl underlying47 ti85 rfl rfl rfl (fun b8_16 w3 H3 => ?_)
    refine Z01 ?_
    refine Z0n (⟨H3.ok mem2, Own.ik (Z0q _) (H3.ok mem4)⟩) ?_
    refine Z0v (L' := [Zy,Zy,Zy,Zy,Zy,Zy,Zy,Zy,Zy,Zy,Zy,Zy,Zy,Zy,Zy,Zy,Zy,Zy,Zz,Zz,Zz]) 17 ZK rfl rfl ?_
    have H4 := St.frontL (l := [_, _, _, _, _]) H3
    simp only [Zca, Zna] at H4
    refine Z19 (r := wrow (entS ((Z0M (s : Int)).1 + (y.s.laid : Int))).1) H4 rfl rfl underlying47 ti85 rfl rfl rfl rfl (Z1M (H4.ok mem1)) (by simp [Value.oneCell']) (by rw [hl8]; omega) (by rw [hl8]; omega) (fun v8_17 w5 H5 => ?_)
    refine Z01 ?_
    refine Z0n (⟨H5.ok mem3, Own.ik (Z0q _) (H5.ok mem5)⟩) ?_
    refine Z0N (L' := [Zy,Zy,Zy,Zy,Zy,Zy,Zy,Zy,Zy,Zy,Zy,Zy,Zy,Zy,Zy,Zy,Zy,Zy,Zy,Zz,Zz]) 18 rfl ZK ZK ZK rfl rfl rfl (⟨H5.ok mem3, Own.ik (Z0q _) (H5.ok mem5)⟩) rfl ?_
    apply Zu (L' := [Zy,Zy,Zy,Zy,Zy,Zy,Zy,Zy,Zy,Zy,Zy,Zy,Zy,Zy,Zy,Zy,Zy,Zy,Zy,Zy,Zz]) 19 (⟨H5.ok mem3, Own.ik (Z0q _) (H5.ok mem5)⟩)
    ·intro wS sS
     refine Z09 Z3y rfl rfl rfl (Z01 ?_)
     exact Z04 rfl
    refine Z0v (L' := [Zy,Zy,Zy,Zy,Zy,Zy,Zy,Zy,Zy,Zy,Zy,Zy,Zy,Zy,Zy,Zy,Zy,Zy,Zy,Zy,Zy]) 20 ZK rfl rfl ?_
    have H6 := St.frontL (l := [_, _]) H5
    simp only [Zca, Zna] at H6
    refine Z0s H6 .head (Z2Z (⟨{ y.s with laid := y.s.laid + 1 }, v8_17⟩) hy 0 ZO rfl) rfl tz47 rfl rfl (Z1O (H6.ok mem1)) (fun w7 H7 => ?_)
    refine Z01 ?_
    refine Z0n (⟨H7.ok mem3, Own.ik (Z0q _) (H7.ok mem5)⟩) ?_
    refine Z0B ZK ?_
    have H8 := St.frontL (l := [_]) H7
    simp only [Zca, Zna] at H8
    have H9 := St.frontL (l := [_, _, _, _, _]) H8
    simp only [Zca, Zna] at H9
    have H10 := St.frontL (l := [_, _, _, _, _]) H9
    simp only [Zca, Zna] at H10
    have H11 := St.frontL (l := [_, _, _, _, _]) H10
    simp only [Zca, Zna] at H11
    have H12 := St.frontL (l := [_, _, _, _]) H11
    simp only [Zca, Zna] at H12
    have H13 := St.del (.tail (.tail (.tail (.tail (.tail .head))))) H12
    refine Z0w (v8_17) ?_ (.cons rfl (.cons rfl .nil)) ?_
    ·exact ⟨H13.cast (by rw [Z3Q hl2]), trivial⟩
    exact .nil
   refine Z05 H2 mem0 rfl rfl underlying47 rfl rfl (Z3q hy 0 ZO) ?_
   refine Z01 ?_
   refine Z0n (⟨H2.ok mem1, Own.ik (Z0q _) (H2.ok mem3)⟩) ?_
   refine Z2B (L' := [Zy,Zy,Zy,Zy,Zy,Zy,Zy,Zy,Zy,Zy,Zy,Zy,Zy,Zz,Zz,Zz,Zz,Zz,Zz,Zz,Zz]) (L'' := [Zy,Zy,Zy,Zy,Zz,Zy,Zy,Zy,Zy,Zy,Zy,Zy,Zy,Zy,Zz,Zz,Zz,Zz,Zz,Zz,Zz]) 4 13 ZK rfl rfl rfl rfl ?_ ?_
   ·refine Z05 H2 mem0 rfl rfl underlying47 rfl rfl (Z3q hy 0 ZO) ?_
    refine Z01 ?_
    refine Z0n (⟨H2.ok mem1, Own.ik (Z0q _) (H2.ok mem3)⟩) ?_
    refine Z0v (L' := [Zy,Zy,Zy,Zy,Zy,Zy,Zy,Zy,Zy,Zy,Zy,Zy,Zy,Zy,Zz,Zz,Zz,Zz,Zz,Zz,Zz]) 13 ZK rfl rfl ?_
    refine Z1B rfl rfl underlying47 rfl (Own.ik (Z1R _ _) (H2.ok mem4)) ?_
    refine Z01 ?_
    refine Z0n (⟨H2.ok mem1, Own.ik (Z0q _) (H2.ok mem3)⟩) ?_
    apply Zu (L' := [Zy,Zy,Zy,Zy,Zy,Zy,Zy,Zy,Zy,Zy,Zy,Zy,Zy,Zy,Zy,Zz,Zz,Zz,Zz,Zz,Zz]) 14 (⟨H2.ok mem1, Own.ik (Z0q _) (H2.ok mem3)⟩)
    ·intro wS sS
     refine Z1s (j := y.s.laid) rfl rfl underlying47 tz85 (by decide) rfl rfl sS.2 hA8 (by rw [hl8]) hell ?_
     refine Z01 ?_
     exact Z04 rfl
    apply Zu (L' := [Zy,Zy,Zy,Zy,Zy,Zy,Zy,Zy,Zy,Zy,Zy,Zy,Zy,Zy,Zy,Zy,Zz,Zz,Zz,Zz,Zz]) 15 (⟨H2.ok mem1, Own.ik (Z0q _) (H2.ok mem3)⟩)
    ·intro wS sS
     refine Z2w (j := y.s.laid) rfl rfl underlying85 rfl tz85 rfl hA8 sS.2 hel ?_
     refine Z01 ?_
     exact Z04 rfl
    refine Z0v (L' := [Zy,Zy,Zy,Zy,Zy,Zy,Zy,Zy,Zy,Zy,Zy,Zy,Zy,Zy,Zy,Zy,Zy,Zz,Zz,Zz,Zz]) 16 ZK rfl rfl ?_
    refine Z2t H2 rfl rfl underlying47 ti85 rfl rfl rfl (fun b8_16 w14 H14 => ?_)
    refine Z01 ?_
    refine Z0n (⟨H14.ok mem2, Own.ik (Z0q _) (H14.ok mem4)⟩) ?_
    refine Z0v (L' := [Zy,Zy,Zy,Zy,Zy,Zy,Zy,Zy,Zy,Zy,Zy,Zy,Zy,Zy,Zy,Zy,Zy,Zy,Zz,Zz,Zz]) 17 ZK rfl rfl ?_
    have H15 := St.frontL (l := [_, _, _, _, _]) H14
    simp only [Zca, Zna] at H15
    refine Z19 (r := wrow (entS ((Z0M (s : Int)).1 + (y.s.laid : Int))).1) H15 rfl rfl underlying47 ti85 rfl rfl rfl rfl (Z1M (H15.ok mem1)) (by simp [Value.oneCell']) (by rw [hl8]; omega) (by rw [hl8]; omega) (fun v8_17 w16 H16 => ?_)
    refine Z01 ?_
    refine Z0n (⟨H16.ok mem3, Own.ik (Z0q _) (H16.ok mem5)⟩) ?_
    refine Z0N (L' := [Zy,Zy,Zy,Zy,Zy,Zy,Zy,Zy,Zy,Zy,Zy,Zy,Zy,Zy,Zy,Zy,Zy,Zy,Zy,Zz,Zz]) 18 rfl ZK ZK ZK rfl rfl rfl (⟨H16.ok mem3, Own.ik (Z0q _) (H16.ok mem5)⟩) rfl ?_
    apply Zu (L' := [Zy,Zy,Zy,Zy,Zy,Zy,Zy,Zy,Zy,Zy,Zy,Zy,Zy,Zy,Zy,Zy,Zy,Zy,Zy,Zy,Zz]) 19 (⟨H16.ok mem3, Own.ik (Z0q _) (H16.ok mem5)⟩)
    ·intro wS sS
     refine Z09 Z3y rfl rfl rfl (Z01 ?_)
     exact Z04 rfl
    refine Z0v (L' := [Zy,Zy,Zy,Zy,Zy,Zy,Zy,Zy,Zy,Zy,Zy,Zy,Zy,Zy,Zy,Zy,Zy,Zy,Zy,Zy,Zy]) 20 ZK rfl rfl ?_
    have H17 := St.frontL (l := [_, _]) H16
    simp only [Zca, Zna] at H17
    refine Z0s H17 .head (Z2Z (⟨{ y.s with laid := y.s.laid + 1 }, v8_17⟩) hy 0 ZO rfl) rfl tz47 rfl rfl (Z1O (H17.ok mem1)) (fun w18 H18 => ?_)
    refine Z01 ?_
    refine Z0n (⟨H18.ok mem3, Own.ik (Z0q _) (H18.ok mem5)⟩) ?_
    refine Z0B ZK ?_
    have H19 := St.frontL (l := [_]) H18
    simp only [Zca, Zna] at H19
    have H20 := St.frontL (l := [_, _, _, _, _]) H19
    simp only [Zca, Zna] at H20
    have H21 := St.frontL (l := [_, _, _, _, _]) H20
    simp only [Zca, Zna] at H21
    have H22 := St.frontL (l := [_, _, _, _, _]) H21
    simp only [Zca, Zna] at H22
    have H23 := St.frontL (l := [_, _, _, _]) H22
    simp only [Zca, Zna] at H23
    have H24 := St.del (.tail (.tail (.tail (.tail (.tail .head))))) H23
    refine Z0w (v8_17) ?_ (.cons rfl (.cons rfl .nil)) ?_
    ·exact ⟨H24.cast (by rw [Z3Q hl2]), trivial⟩
    exact .nil
   refine Z1B rfl rfl underlying47 rfl (Own.ik (Z1R _ _) (H2.ok mem4)) ?_
   refine Z01 ?_
   refine Z0n (⟨H2.ok mem1, Own.ik (Z0q _) (H2.ok mem3)⟩) ?_
   apply Zu (L' := [Zy,Zy,Zy,Zy,Zz,Zy,Zy,Zy,Zy,Zy,Zy,Zy,Zy,Zy,Zy,Zz,Zz,Zz,Zz,Zz,Zz]) 14 (⟨H2.ok mem1, Own.ik (Z0q _) (H2.ok mem3)⟩)
   ·intro wS sS
    refine Z1s (j := y.s.laid) rfl rfl underlying47 tz85 (by decide) rfl rfl sS.2 hA8 (by rw [hl8]) hell ?_
    refine Z01 ?_
    exact Z04 rfl
   apply Zu (L' := [Zy,Zy,Zy,Zy,Zz,Zy,Zy,Zy,Zy,Zy,Zy,Zy,Zy,Zy,Zy,Zy,Zz,Zz,Zz,Zz,Zz]) 15 (⟨H2.ok mem1, Own.ik (Z0q _) (H2.ok mem3)⟩)
   ·intro wS sS
    refine Z2w (j := y.s.laid) rfl rfl underlying85 rfl tz85 rfl hA8 sS.2 hel ?_
    refine Z01 ?_
    exact Z04 rfl
   refine Z2B (L' := [Zy,Zy,Zy,Zy,Zy,Zy,Zy,Zy,Zy,Zy,Zy,Zy,Zy,Zy,Zy,Zy,Zz,Zz,Zz,Zz,Zz]) (L'' := [Zy,Zy,Zy,Zy,Zz,Zy,Zy,Zy,Zy,Zy,Zy,Zy,Zy,Zy,Zy,Zy,Zy,Zz,Zz,Zz,Zz]) 4 16 ZK rfl rfl rfl rfl ?_ ?_
   ·refine Z05 H2 mem0 rfl rfl underlying47 rfl rfl (Z3q hy 0 ZO) ?_
    refine Z01 ?_
    refine Z0n (⟨H2.ok mem1, Own.ik (Z0q _) (H2.ok mem3)⟩) ?_
    refine Z0v (L' := [Zy,Zy,Zy,Zy,Zy,Zy,Zy,Zy,Zy,Zy,Zy,Zy,Zy,Zy,Zy,Zy,Zy,Zz,Zz,Zz,Zz]) 16 ZK rfl rfl ?_
    refine Z2t H2 rfl rfl underlying47 ti85 rfl rfl rfl (fun b8_16 w25 H25 => ?_)
    refine Z01 ?_
    refine Z0n (⟨H25.ok mem2, Own.ik (Z0q _) (H25.ok mem4)⟩) ?_
    refine Z0v (L' := [Zy,Zy,Zy,Zy,Zy,Zy,Zy,Zy,Zy,Zy,Zy,Zy,Zy,Zy,Zy,Zy,Zy,Zy,Zz,Zz,Zz]) 17 ZK rfl rfl ?_
    have H26 := St.frontL (l := [_, _, _, _, _]) H25
    simp only [Zca, Zna] at H26
    refine Z19 (r := wrow (entS ((Z0M (s : Int)).1 + (y.s.laid : Int))).1) H26 rfl rfl underlying47 ti85 rfl rfl rfl rfl (Z1M (H26.ok mem1)) (by simp [Value.oneCell']) (by rw [hl8]; omega) (by rw [hl8]; omega) (fun v8_17 w27 H27 => ?_)
    refine Z01 ?_
    refine Z0n (⟨H27.ok mem3, Own.ik (Z0q _) (H27.ok mem5)⟩) ?_
    refine Z0N (L' := [Zy,Zy,Zy,Zy,Zy,Zy,Zy,Zy,Zy,Zy,Zy,Zy,Zy,Zy,Zy,Zy,Zy,Zy,Zy,Zz,Zz]) 18 rfl ZK ZK ZK rfl rfl rfl (⟨H27.ok mem3, Own.ik (Z0q _) (H27.ok mem5)⟩) rfl ?_
    apply Zu (L' := [Zy,Zy,Zy,Zy,Zy,Zy,Zy,Zy,Zy,Zy,Zy,Zy,Zy,Zy,Zy,Zy,Zy,Zy,Zy,Zy,Zz]) 19 (⟨H27.ok mem3, Own.ik (Z0q _) (H27.ok mem5)⟩)
    ·intro wS sS
     refine Z09 Z3y rfl rfl rfl (Z01 ?_)
     exact Z04 rfl
    refine Z0v (L' := [Zy,Zy,Zy,Zy,Zy,Zy,Zy,Zy,Zy,Zy,Zy,Zy,Zy,Zy,Zy,Zy,Zy,Zy,Zy,Zy,Zy]) 20 ZK rfl rfl ?_
    have H28 := St.frontL (l := [_, _]) H27
    simp only [Zca, Zna] at H28
    refine Z0s H28 .head (Z2Z (⟨{ y.s with laid := y.s.laid + 1 }, v8_17⟩) hy 0 ZO rfl) rfl tz47 rfl rfl (Z1O (H28.ok mem1)) (fun w29 H29 => ?_)
    refine Z01 ?_
    refine Z0n (⟨H29.ok mem3, Own.ik (Z0q _) (H29.ok mem5)⟩) ?_
    refine Z0B ZK ?_
    have H30 := St.frontL (l := [_]) H29
    simp only [Zca, Zna] at H30
    have H31 := St.frontL (l := [_, _, _, _, _]) H30
    simp only [Zca, Zna] at H31
    have H32 := St.frontL (l := [_, _, _, _, _]) H31
    simp only [Zca, Zna] at H32
    have H33 := St.frontL (l := [_, _, _, _, _]) H32
    simp only [Zca, Zna] at H33
    have H34 := St.frontL (l := [_, _, _, _]) H33
    simp only [Zca, Zna] at H34
    have H35 := St.del (.tail (.tail (.tail (.tail (.tail .head))))) H34
    refine Z0w (v8_17) ?_ (.cons rfl (.cons rfl .nil)) ?_
    ·exact ⟨H35.cast (by rw [Z3Q hl2]), trivial⟩
    exact .nil
   refine Z2t H2 rfl rfl underlying47 ti85 rfl rfl rfl (fun b8_16 w36 H36 => ?_)
   refine Z01 ?_
   refine Z0n (⟨H36.ok mem2, Own.ik (Z0q _) (H36.ok mem4)⟩) ?_
   refine Z0v (L' := [Zy,Zy,Zy,Zy,Zy,Zy,Zy,Zy,Zy,Zy,Zy,Zy,Zy,Zy,Zy,Zy,Zy,Zz,Zz,Zz,Zz]) 4 ZK rfl rfl ?_
   refine Z05 H36 mem1 rfl rfl underlying47 rfl rfl (Z3q hy 0 ZO) ?_
   refine Z01 ?_
   refine Z0n (⟨H36.ok mem2, Own.ik (Z0q _) (H36.ok mem4)⟩) ?_
   refine Z0v (L' := [Zy,Zy,Zy,Zy,Zy,Zy,Zy,Zy,Zy,Zy,Zy,Zy,Zy,Zy,Zy,Zy,Zy,Zy,Zz,Zz,Zz]) 17 ZK rfl rfl ?_
   have H37 := St.frontL (l := [_, _, _, _, _]) H36
   simp only [Zca, Zna] at H37
   refine Z19 (r := wrow (entS ((Z0M (s : Int)).1 + (y.s.laid : Int))).1) H37 rfl rfl underlying47 ti85 rfl rfl rfl rfl (Z1M (H37.ok mem1)) (by simp [Value.oneCell']) (by rw [hl8]; omega) (by rw [hl8]; omega) (fun v8_17 w38 H38 => ?_)
   refine Z01 ?_
   refine Z0n (⟨H38.ok mem3, Own.ik (Z0q _) (H38.ok mem5)⟩) ?_
   refine Z0N (L' := [Zy,Zy,Zy,Zy,Zy,Zy,Zy,Zy,Zy,Zy,Zy,Zy,Zy,Zy,Zy,Zy,Zy,Zy,Zy,Zz,Zz]) 18 rfl ZK ZK ZK rfl rfl rfl (⟨H38.ok mem3, Own.ik (Z0q _) (H38.ok mem5)⟩) rfl ?_
   apply Zu (L' := [Zy,Zy,Zy,Zy,Zy,Zy,Zy,Zy,Zy,Zy,Zy,Zy,Zy,Zy,Zy,Zy,Zy,Zy,Zy,Zy,Zz]) 19 (⟨H38.ok mem3, Own.ik (Z0q _) (H38.ok mem5)⟩)
   ·intro wS sS
    refine Z09 Z3y rfl rfl rfl (Z01 ?_)
    exact Z04 rfl
   refine Z0v (L' := [Zy,Zy,Zy,Zy,Zy,Zy,Zy,Zy,Zy,Zy,Zy,Zy,Zy,Zy,Zy,Zy,Zy,Zy,Zy,Zy,Zy]) 20 ZK rfl rfl ?_
   have H39 := St.frontL (l := [_, _]) H38
   simp only [Zca, Zna] at H39
   refine Z0s H39 .head (Z2Z (⟨{ y.s with laid := y.s.laid + 1 }, v8_17⟩) hy 0 ZO rfl) rfl tz47 rfl rfl (Z1O (H39.ok mem1)) (fun w40 H40 => ?_)
   refine Z01 ?_
   refine Z0n (⟨H40.ok mem3, Own.ik (Z0q _) (H40.ok mem5)⟩) ?_
   refine Z0B ZK ?_
   have H41 := St.frontL (l := [_]) H40
   simp only [Zca, Zna] at H41
   have H42 := St.frontL (l := [_, _, _, _, _]) H41
   simp only [Zca, Zna] at H42
   have H43 := St.frontL (l := [_, _, _, _, _]) H42
   simp only [Zca, Zna] at H43
   have H44 := St.frontL (l := [_, _, _, _, _]) H43
   simp only [Zca, Zna] at H44
   have H45 := St.frontL (l := [_, _, _, _]) H44
   simp only [Zca, Zna] at H45
   have H46 := St.del (.tail (.tail (.tail (.tail (.tail .head))))) H45
   refine Z0w (v8_17) ?_ (.cons rfl (.cons rfl .nil)) ?_
   ·exact ⟨H46.cast (by rw [Z3Q hl2]), trivial⟩
   exact .nil
  rintro v8 w47 ⟨H47, _⟩
  refine Z03 ?_
  have H48 := H47.drewn
  refine Z1a (n := 11) [Zz,Zz,Zz,Zz,Zz,Zz,Zz,Zz,Zz,Zz,Zz] (fun wS => (As.blk m.wb 109 (wkC b m)).ok wS ∧ (As.blk b 63 (gC { X with sg := X.sg.set s (⟨{ y.s with laid := y.s.laid + 1 }, v8⟩ : Sm) })).ok wS) ZK rfl rfl ?_
  apply Zu (L' := [Zy,Zz,Zz,Zz,Zz,Zz,Zz,Zz,Zz,Zz,Zz]) 0 (⟨H48.ok mem1, H48.ok mem0⟩)
  ·intro wS sS
   refine Zm (Z01 ?_)
   exact Z04 rfl
  refine Z0N (L' := [Zy,Zy,Zz,Zz,Zz,Zz,Zz,Zz,Zz,Zz,Zz]) 1 rfl ZK ZK ZK rfl rfl rfl (⟨H48.ok mem1, H48.ok mem0⟩) rfl ?_
  apply Zu (L' := [Zy,Zy,Zy,Zz,Zz,Zz,Zz,Zz,Zz,Zz,Zz]) 2 (⟨H48.ok mem1, H48.ok mem0⟩)
  ·intro wS sS
   refine Z09 Z3y rfl rfl rfl (Z01 ?_)
   exact Z04 rfl
  apply Zu (L' := [Zy,Zy,Zy,Zy,Zz,Zz,Zz,Zz,Zz,Zz,Zz]) 3 (⟨H48.ok mem1, H48.ok mem0⟩)
  ·intro wS sS
   refine Z05 (Z0r sS.2) mem0 rfl rfl underlying47 rfl rfl (Z3q (set_at hy) 0 ZO) ?_
   refine Z01 ?_
   exact Z04 rfl
  apply Zu (L' := [Zy,Zy,Zy,Zy,Zz,Zy,Zz,Zz,Zz,Zz,Zz]) 5 (⟨H48.ok mem1, H48.ok mem0⟩)
  ·intro wS sS
   refine Zm (Z01 ?_)
   exact Z04 rfl
  refine Z0N (L' := [Zy,Zy,Zy,Zy,Zz,Zy,Zy,Zz,Zz,Zz,Zz]) 6 rfl ZK ZK ZK rfl rfl rfl (⟨H48.ok mem1, H48.ok mem0⟩) rfl ?_
  apply Zu (L' := [Zy,Zy,Zy,Zy,Zz,Zy,Zy,Zy,Zz,Zz,Zz]) 7 (⟨H48.ok mem1, H48.ok mem0⟩)
  ·intro wS sS
   refine Z09 fo109_4 rfl rfl rfl (Z01 ?_)
   exact Z04 rfl
  apply Zu (L' := [Zy,Zy,Zy,Zy,Zz,Zy,Zy,Zy,Zy,Zz,Zz]) 8 (⟨H48.ok mem1, H48.ok mem0⟩)
  ·intro wS sS
   refine Z05 (Z0r sS.1) mem0 rfl rfl underlying47 rfl rfl rfl ?_
   refine Z01 ?_
   exact Z04 rfl
  refine Z2B (L' := [Zy,Zy,Zy,Zy,Zy,Zy,Zy,Zy,Zy,Zz,Zz]) (L'' := [Zy,Zy,Zy,Zy,Zz,Zy,Zy,Zy,Zy,Zy,Zz]) 4 9 ZK rfl rfl rfl rfl ?_ ?_
  ·refine Z1B rfl rfl underlying47 rfl (Own.ik (Z1R _ _) (H48.ok mem4)) ?_
   refine Z01 ?_
   refine Z0n (⟨H48.ok mem1, H48.ok mem0⟩) ?_
   refine Z0v (L' := [Zy,Zy,Zy,Zy,Zy,Zy,Zy,Zy,Zy,Zy,Zz]) 9 ZK rfl rfl ?_
   refine Z1B rfl rfl underlying47 rfl (Own.ik (Z0q _) (H48.ok mem3)) ?_
   refine Z01 ?_
   refine Z0n (⟨H48.ok mem1, H48.ok mem0⟩) ?_
   apply Zu (L' := [Zy,Zy,Zy,Zy,Zy,Zy,Zy,Zy,Zy,Zy,Zy]) 10 (⟨H48.ok mem1, H48.ok mem0⟩)
   ·intro wS sS
    refine Ze ?_
    refine Z01 ?_
    exact Z04 rfl
   refine Z0B ZK ?_
   refine Z02 ?_
   refine Zk [0, 79] ?_
   (first | refine Z0c rfl ?_ ?_ | refine Z08 rfl ?_ ?_) <;> intro hc1
   ·refine Z00 (Zm (Z0b rfl rfl rfl (Z09 Z22 rfl rfl rfl ?_)))
    refine Z0s H48 (.tail .head) (by repeat (first | exact .zero | apply Z1F.succ)) rfl tz3 rfl rfl ZR (fun w49 H49 => ?_)
    refine Z01 ?_
    refine Z0F ?_
    refine Z02 ?_
    refine Zk [] ?_
    refine Z03 (Z00 (Zg (Z01 (Z02 ?_))))
    refine Z0i ?_
    refine Z0e results51 rfl ?_
    refine ⟨_, rfl, ?_⟩
    have H54 := St.front4 (St.front4 (St.front4 (St.front4 (St.front4 H49))))
    have hres : Z0G (s : Int) m.h y.s = ({ m.h with line := 3 }, { y.s with laid := y.s.laid + 1 }) := by
     unfold Z0G
     rw [if_pos hc0, if_pos (by have h := hc1; dsimp only at h; rw [hl9, hlt] at h; omega)]
    refine ⟨m.vt, v8, ?_, ?_⟩
    ·exact congrArg Value.bool (by simp [hc0])
    show Z1C _ _ _ (wkR b { X with sg := X.sg.set s ⟨(Z0G (s : Int) m.h y.s).2, v8⟩ } { m with h := (Z0G (s : Int) m.h y.s).1, vt := m.vt } s ⟨(Z0G (s : Int) m.h y.s).2, v8⟩)
    rw [hres]
    exact St.transS H54
   refine Z0a ?_
   refine Z0F ?_
   refine Z02 ?_
   refine Zk [] ?_
   refine Z03 (Z00 (Zg (Z01 (Z02 ?_))))
   refine Z0i ?_
   refine Z0e results51 rfl ?_
   refine ⟨_, rfl, ?_⟩
   have H59 := St.front4 (St.front4 (St.front4 (St.front4 (St.front4 H48))))
   have hres : Z0G (s : Int) m.h y.s = ({ m.h with line := 2 }, { y.s with laid := y.s.laid + 1 }) := by
    unfold Z0G
    rw [if_pos hc0, if_neg (by have h := hc1; dsimp only at h; rw [hl9, hlt] at h; omega)]
   refine ⟨m.vt, v8, ?_, ?_⟩
   ·exact congrArg Value.bool (by simp [hc0])
   show Z1C _ _ _ (wkR b { X with sg := X.sg.set s ⟨(Z0G (s : Int) m.h y.s).2, v8⟩ } { m with h := (Z0G (s : Int) m.h y.s).1, vt := m.vt } s ⟨(Z0G (s : Int) m.h y.s).2, v8⟩)
   rw [hres, ← hc0]
   exact St.transS H59
  refine Z1B rfl rfl underlying47 rfl (Own.ik (Z0q _) (H48.ok mem3)) ?_
  refine Z01 ?_
  refine Z0n (⟨H48.ok mem1, H48.ok mem0⟩) ?_
  refine Z0v (L' := [Zy,Zy,Zy,Zy,Zy,Zy,Zy,Zy,Zy,Zy,Zz]) 4 ZK rfl rfl ?_
  refine Z1B rfl rfl underlying47 rfl (Own.ik (Z1R _ _) (H48.ok mem4)) ?_
  refine Z01 ?_
  refine Z0n (⟨H48.ok mem1, H48.ok mem0⟩) ?_
  apply Zu (L' := [Zy,Zy,Zy,Zy,Zy,Zy,Zy,Zy,Zy,Zy,Zy]) 10 (⟨H48.ok mem1, H48.ok mem0⟩)
  ·intro wS sS
   refine Ze ?_
   refine Z01 ?_
   exact Z04 rfl
  refine Z0B ZK ?_
  refine Z02 ?_
  refine Zk [0, 79] ?_
  (first | refine Z0c rfl ?_ ?_ | refine Z08 rfl ?_ ?_) <;> intro hc1
  ·refine Z00 (Zm (Z0b rfl rfl rfl (Z09 Z22 rfl rfl rfl ?_)))
   refine Z0s H48 (.tail .head) (by repeat (first | exact .zero | apply Z1F.succ)) rfl tz3 rfl rfl ZR (fun w60 H60 => ?_)
   refine Z01 ?_
   refine Z0F ?_
   refine Z02 ?_
   refine Zk [] ?_
   refine Z03 (Z00 (Zg (Z01 (Z02 ?_))))
   refine Z0i ?_
   refine Z0e results51 rfl ?_
   refine ⟨_, rfl, ?_⟩
   have H65 := St.front4 (St.front4 (St.front4 (St.front4 (St.front4 H60))))
   have hres : Z0G (s : Int) m.h y.s = ({ m.h with line := 3 }, { y.s with laid := y.s.laid + 1 }) := by
    unfold Z0G
    rw [if_pos hc0, if_pos (by have h := hc1; dsimp only at h; rw [hl9, hlt] at h; omega)]
   refine ⟨m.vt, v8, ?_, ?_⟩
   ·exact congrArg Value.bool (by simp [hc0])
   show Z1C _ _ _ (wkR b { X with sg := X.sg.set s ⟨(Z0G (s : Int) m.h y.s).2, v8⟩ } { m with h := (Z0G (s : Int) m.h y.s).1, vt := m.vt } s ⟨(Z0G (s : Int) m.h y.s).2, v8⟩)
   rw [hres]
   exact St.transS H65
  refine Z0a ?_
  refine Z0F ?_
  refine Z02 ?_
  refine Zk [] ?_
  refine Z03 (Z00 (Zg (Z01 (Z02 ?_))))
  refine Z0i ?_
  refine Z0e results51 rfl ?_
  refine ⟨_, rfl, ?_⟩
  have H70 := St.front4 (St.front4 (St.front4 (St.front4 (St.front4 H48))))
  have hres : Z0G (s : Int) m.h y.s = ({ m.h with line := 2 }, { y.s with laid := y.s.laid + 1 }) := by
   unfold Z0G
   rw [if_pos hc0, if_neg (by have h := hc1; dsimp only at h; rw [hl9, hlt] at h; omega)]
  refine ⟨m.vt, v8, ?_, ?_⟩
  ·exact congrArg Value.bool (by simp [hc0])
  show Z1C _ _ _ (wkR b { X with sg := X.sg.set s ⟨(Z0G (s : Int) m.h y.s).2, v8⟩ } { m with h := (Z0G (s : Int) m.h y.s).1, vt := m.vt } s ⟨(Z0G (s : Int) m.h y.s).2, v8⟩)
  rw [hres, ← hc0]
  exact St.transS H70
 refine Z03 (Z00 (Zm (Z0b rfl rfl rfl (Z09 Z22 rfl rfl rfl ?_))))
 refine Z05 H1 mem1 rfl rfl underlying3 rfl rfl rfl ?_
 refine Ze ?_
 refine Zg (Z01 (Z02 ?_))
 refine Zk [0, 3, 4, 83] ?_
 (first | refine Z0c rfl ?_ ?_ | refine Z08 rfl ?_ ?_) <;> intro hc2
 ·refine Z03 (Z00 (Zm (Z0b rfl rfl rfl (Z09 fo58_2 rfl rfl rfl ?_))))
  refine Z0s H1 .head (Z2Z (⟨{ y.s with done := true }, y.v⟩) hy 2 ZO rfl) rfl tz4 rfl rfl rfl (fun w71 H71 => ?_)
  refine Z01 (Z02 ?_)
  refine Zk [0] ?_
  refine Z00 (Zm (Z0b rfl rfl rfl (Z09 Z22 rfl rfl rfl ?_)))
  refine Z0s H71 (.tail .head) (by repeat (first | exact .zero | apply Z1F.succ)) rfl tz3 rfl rfl ZR (fun w72 H72 => ?_)
  refine Z01 ?_
  refine Z0F ?_
  refine Z02 ?_
  refine Zk [] ?_
  refine Z03 (Z00 (Zg (Z01 (Z02 ?_))))
  refine Z0i ?_
  refine Z0e results51 rfl ?_
  refine ⟨_, rfl, ?_⟩
  have H77 := St.front4 (St.front4 (St.front4 (St.front4 (St.front4 H72))))
  have hres : Z0G (s : Int) m.h y.s = ({ m.h with line := 1 }, { y.s with done := true }) := by
   unfold Z0G
   rw [if_neg hc0, if_pos hc2]
  refine ⟨m.vt, y.v, ?_, ?_⟩
  ·exact congrArg Value.bool (by simp [hc2])
  show Z1C _ _ _ (wkR b { X with sg := X.sg.set s ⟨(Z0G (s : Int) m.h y.s).2, y.v⟩ } { m with h := (Z0G (s : Int) m.h y.s).1, vt := m.vt } s ⟨(Z0G (s : Int) m.h y.s).2, y.v⟩)
  rw [hres]
  exact St.transS H77
 refine Z03 (Z00 (Zm (Z0b rfl rfl rfl (Z09 fo58_2 rfl rfl rfl ?_))))
 refine Z05 H1 mem0 rfl rfl underlying4 rfl rfl (Z3q hy 2 ZO) ?_
 first | refine Z38 rfl rfl rfl ?_ | refine Z3v rfl rfl rfl ?_
 refine Zg (Z01 (Z02 ?_))
 refine Zk [0, 3, 4, 95] ?_
 (first | refine Z0c rfl ?_ ?_ | refine Z08 rfl ?_ ?_) <;> intro hc3
 ·refine Z03 (Z00 (Zm (Z0b rfl rfl rfl (Z09 fo58_1 rfl rfl rfl ?_))))
  refine Z05 H1 mem0 rfl rfl underlying3 rfl rfl (Z3q hy 1 ZO) ?_
  refine Z0y rfl rfl rfl rfl (Z0l ZO) ?_
  refine Z0b rfl rfl rfl (Z09 fo58_1 rfl rfl rfl ?_)
  refine Z0s H1 .head (Z2Z (⟨{ y.s with built := y.s.built + 1 }, y.v⟩) hy 1 ZO rfl) rfl tz3 rfl rfl rfl (fun w78 H78 => ?_)
  refine Z01 (Z02 ?_)
  refine Zk [0, 3] ?_
  refine Z03 (Z00 (Zm (Zm ?_)))
  refine Zc func66 (segP (s : Int) ZO w78) ?_
  rintro _ w79 ⟨vt2, rfl, hG⟩
  have H79 := hG _ _ _ _ H78
  simp only [Zca, Zna] at H79
  refine Zm ?_
  refine Zx (Zx (Z0b rfl rfl rfl (Z09 fo109_4 rfl rfl rfl ?_)))
  have hvt2 := Z1O (H79.ok mem0)
  refine Z0s H79 (.tail (.tail .head)) (by repeat (first | exact .zero | apply Z1F.succ)) rfl tz47 rfl rfl ZR (fun w80 H80 => ?_)
  refine Z01 (Z02 ?_)
  refine Zk [0] ?_
  refine Z00 ?_
  have H81 := St.del (.tail (.tail (.tail (.tail .head)))) H80
  refine Zm (Z0b rfl rfl rfl (Z09 Z22 rfl rfl rfl ?_))
  refine Z0s H81 (.tail (.tail .head)) (by repeat (first | exact .zero | apply Z1F.succ)) rfl tz3 rfl rfl ZR (fun w82 H82 => ?_)
  refine Z01 ?_
  refine Z0F ?_
  refine Z02 ?_
  refine Zk [] ?_
  refine Z03 (Z00 (Zg (Z01 (Z02 ?_))))
  refine Z0i ?_
  refine Z0e results51 rfl ?_
  refine ⟨_, rfl, ?_⟩
  have H87 := St.front4 (St.front4 (St.front4 (St.front1 (St.front4 H82))))
  have hres : Z0G (s : Int) m.h y.s = ({ m.h with line := 2, tk := (s : Int) }, { y.s with built := y.s.built + 1 }) := by
   unfold Z0G
   rw [if_neg hc0, if_neg hc2, if_pos (by simpa using hc3)]
  refine ⟨vt2, y.v, ?_, ?_⟩
  ·exact congrArg Value.bool (by simp at hc3; simp [hc3])
  show Z1C _ _ _ (wkR b { X with sg := X.sg.set s ⟨(Z0G (s : Int) m.h y.s).2, y.v⟩ } { m with h := (Z0G (s : Int) m.h y.s).1, vt := vt2 } s ⟨(Z0G (s : Int) m.h y.s).2, y.v⟩)
  rw [hres]
  exact St.transS (H87.cast (by show _ = [_, _, _, As.rk _ 2 _ (takR (s : Int)), _]; rw [Z4B]; rfl))
 refine Z03 (Z00 (Zm (Z0b rfl rfl rfl (Z09 Z3h rfl rfl rfl ?_))))
 refine Z05 H1 mem1 rfl rfl underlying3 rfl rfl rfl ?_
 refine Z0y rfl rfl rfl rfl (Z0l ZO) ?_
 refine Z0b rfl rfl rfl (Z09 Z3h rfl rfl rfl ?_)
 refine Z0s H1 (.tail .head) (by repeat (first | exact .zero | apply Z1F.succ)) rfl tz3 rfl rfl ZR (fun w88 H88 => ?_)
 refine Z01 (Z02 ?_)
 refine Zk [0] ?_
 refine Z03 (Z03 ?_)
 have H89 := H88.drewn
 refine Z1a (n := 10) [Zz,Zz,Zz,Zz,Zz,Zz,Zz,Zz,Zz,Zz] (fun wS => ∃ cs, (As.blk m.wb 109 cs).ok wS ∧ cs[1]? = some m.vn ∧ cs[2]? = some (.int .i64 ((m.h.nx : Int) + 1))) ZK rfl rfl ?_
 apply Zu (L' := [Zy,Zz,Zz,Zz,Zz,Zz,Zz,Zz,Zz,Zz]) 0 (⟨_, H89.ok mem1, rfl, rfl⟩)
 ·intro wS sS
  refine Zm (Z01 ?_)
  exact Z04 rfl
 refine Z0N (L' := [Zy,Zy,Zz,Zz,Zz,Zz,Zz,Zz,Zz,Zz]) 1 rfl ZK ZK ZK rfl rfl rfl (⟨_, H89.ok mem1, rfl, rfl⟩) rfl ?_
 apply Zu (L' := [Zy,Zy,Zy,Zz,Zz,Zz,Zz,Zz,Zz,Zz]) 2 (⟨_, H89.ok mem1, rfl, rfl⟩)
 ·intro wS sS
  refine Z09 Z3h rfl rfl rfl (Z01 ?_)
  exact Z04 rfl
 apply Zu (L' := [Zy,Zy,Zy,Zy,Zz,Zz,Zz,Zz,Zz,Zz]) 3 (⟨_, H89.ok mem1, rfl, rfl⟩)
 ·intro wS sS
  obtain ⟨cs, hcs, hcs1, hcs2⟩ := sS
  refine Z05 (Z0r hcs) mem0 rfl rfl underlying3 rfl rfl hcs2 ?_
  refine Z01 ?_
  exact Z04 rfl
 apply Zu (L' := [Zy,Zy,Zy,Zy,Zy,Zz,Zz,Zz,Zz,Zz]) 4 (⟨_, H89.ok mem1, rfl, rfl⟩)
 ·intro wS sS
  refine Zm (Z01 ?_)
  exact Z04 rfl
 refine Z0N (L' := [Zy,Zy,Zy,Zy,Zy,Zy,Zz,Zz,Zz,Zz]) 5 rfl ZK ZK ZK rfl rfl rfl (⟨_, H89.ok mem1, rfl, rfl⟩) rfl ?_
 apply Zu (L' := [Zy,Zy,Zy,Zy,Zy,Zy,Zy,Zz,Zz,Zz]) 6 (⟨_, H89.ok mem1, rfl, rfl⟩)
 ·intro wS sS
  refine Z09 Z4V rfl rfl rfl (Z01 ?_)
  exact Z04 rfl
 apply Zu (L' := [Zy,Zy,Zy,Zy,Zy,Zy,Zy,Zy,Zz,Zz]) 7 (⟨_, H89.ok mem1, rfl, rfl⟩)
 ·intro wS sS
  obtain ⟨cs, hcs, hcs1, hcs2⟩ := sS
  refine Z05 (Z0r hcs) mem0 rfl rfl underlying34 rfl rfl hcs1 ?_
  refine Z01 ?_
  exact Z04 rfl
 refine Z0v (L' := [Zy,Zy,Zy,Zy,Zy,Zy,Zy,Zy,Zy,Zz]) 8 ZK rfl rfl ?_
 refine Z0u rfl rfl underlying34 rfl (by first | exact H89.ibl mem0 | exact H89.ibl mem1 | exact H89.io mem2 | exact H89.ik ZA mem3 | exact H89.ik ZA mem4 | assumption) ?_
 refine Z01 ?_
 refine Z0n (⟨_, H89.ok mem1, rfl, rfl⟩) ?_
 apply Zu (L' := [Zy,Zy,Zy,Zy,Zy,Zy,Zy,Zy,Zy,Zy]) 9 (⟨_, H89.ok mem1, rfl, rfl⟩)
 ·intro wS sS
  refine Ze ?_
  refine Z01 ?_
  exact Z04 rfl
 refine Z0B ZK ?_
 refine Z02 ?_
 refine Zk [0, 39] ?_
 (first | refine Z0c rfl ?_ ?_ | refine Z08 rfl ?_ ?_) <;> intro hc4
 ·refine Z00 (Zm (Z0b rfl rfl rfl (Z09 Z22 rfl rfl rfl ?_)))
  refine Z0s H89 (.tail .head) (by repeat (first | exact .zero | apply Z1F.succ)) rfl tz3 rfl rfl ZR (fun w90 H90 => ?_)
  refine Z01 (Z02 ?_)
  refine Zk [] ?_
  refine Z03 (Z00 (Zg (Z01 (Z02 ?_))))
  refine Z0i ?_
  refine Z0k ?_
  refine Z07 ?_
  refine Z0e results51 rfl ?_
  refine ⟨_, rfl, ?_⟩
  have H95 := St.front4 (St.front4 (St.front4 (St.front4 (St.front4 H90))))
  have hres : Z0G (s : Int) m.h y.s = ({ m.h with nx := m.h.nx + 1, line := 4 }, y.s) := by
   unfold Z0G
   rw [if_neg hc0, if_neg hc2, if_neg (by simpa using hc3), if_pos ZO]
  refine ⟨m.vt, y.v, ?_, ?_⟩
  ·exact congrArg Value.bool (by simp at hc3; simp [hc3]; omega)
  show Z1C _ _ _ (wkR b { X with sg := X.sg.set s ⟨(Z0G (s : Int) m.h y.s).2, y.v⟩ } { m with h := (Z0G (s : Int) m.h y.s).1, vt := m.vt } s ⟨(Z0G (s : Int) m.h y.s).2, y.v⟩)
  rw [hres]
  exact St.transS (St.cast (σ' := wkR b { X with sg := X.sg.set s y } _ s y) H95 (by rw [show X.sg.set s y = X.sg from Z36 hy]; rfl))
 refine Z0a (Z02 ?_)
 refine Zk [] ?_
 refine Z03 (Z00 (Zg (Z01 (Z02 ?_))))
 refine Z0i ?_
 refine Z0k ?_
 refine Z07 ?_
 refine Z0e results51 rfl ?_
 refine ⟨_, rfl, ?_⟩
 have H100 := St.front4 (St.front4 (St.front4 (St.front4 (St.front4 H89))))
 have hres : Z0G (s : Int) m.h y.s = ({ m.h with nx := m.h.nx + 1, line := 1 }, y.s) := by
  unfold Z0G
  rw [if_neg hc0, if_neg hc2, if_neg (by simpa using hc3), if_neg ZO]
 refine ⟨m.vt, y.v, ?_, ?_⟩
 ·exact congrArg Value.bool (by simp at hc3; simp [hc3]; omega)
 show Z1C _ _ _ (wkR b { X with sg := X.sg.set s ⟨(Z0G (s : Int) m.h y.s).2, y.v⟩ } { m with h := (Z0G (s : Int) m.h y.s).1, vt := m.vt } s ⟨(Z0G (s : Int) m.h y.s).2, y.v⟩)
 rw [hres]
 exact St.transS (St.cast (σ' := wkR b { X with sg := X.sg.set s y } _ s y) H100 (by rw [show X.sg.set s y = X.sg from Z36 hy, show m.h.line = 1 by omega]; rfl))
theorem newW (b : Nat) (vn : Value) (l : List Int) (w : World) (hn : IV w vn (ints .i64 l)) :
  Z0f P 46 [.pointer (some ⟨b, 2, none⟩), vn] w fun r w' => ∃ wb, r = ptr wb ∧ Grow w w' [As.blk wb 109 [.pointer (some ⟨b, 2, none⟩), vn, .int .i64 0, .int .i64 (if l.length = 0 then 4 else 1), .slice none 0 0]] := by
 refine Z0o func46 rfl ntmps46 rfl ?_
 have H0 := St.start w
 have hvn : vn.oneCell' = true := by
  obtain ⟨A, c, rfl, _⟩ := hn
  rfl
 refine Z03 (Z00 (Zg (Z01 (Z02 ?_))))
 refine Zk [0, 1] ?_
 refine Z03 (Z00 (Zm (Zm ?_)))
 refine Z16 rfl rfl pl109 ta109 (.one rfl rfl ZR .zero (.one rfl rfl ZR (.succ .zero) (.one rfl rfl ZR (.succ (.succ (.succ .zero))) .nil))) ?_
 refine l_box H0 rfl rfl rfl (fun b1_3 w1 H1 => ?_)
 refine Zg (Z01 (Z02 ?_))
 refine Zk [1, 5] ?_
 refine Z03 (Z03 (Z00 (Zm ?_)))
 refine Z0u rfl rfl underlying34 rfl (by first | exact H1.ibl mem0 | exact H1.iarg hn | assumption) ?_
 refine Ze ?_
 refine Z01 (Z02 ?_)
 refine Zk [5, 12] ?_
 (first | refine Z0c rfl ?_ ?_ | refine Z08 rfl ?_ ?_) <;> intro hc0
 ·refine Z00 (Zm (Z0b rfl rfl rfl (Z09 Z22 rfl rfl rfl ?_)))
  refine Z0s H1 .head (by repeat (first | exact .zero | apply Z1F.succ)) rfl tz3 rfl rfl ZR (fun w2 H2 => ?_)
  refine Z01 (Z02 ?_)
  refine Zk [5] ?_
  refine Z03 (Z00 (Zm (Zg (Z01 (Z02 ?_)))))
  refine Zk [4] ?_
  refine Z0i ?_
  refine Z0e results46 rfl ?_
  refine ⟨_, rfl, ?_⟩
  refine ⟨_, rfl, ?_⟩
  rw [if_pos ZO]
  exact H2.grows
 refine Z0a (Z02 ?_)
 refine Zk [5] ?_
 refine Z03 (Z00 (Zm (Zg (Z01 (Z02 ?_)))))
 refine Zk [4] ?_
 refine Z0i ?_
 refine Z0e results46 rfl ?_
 refine ⟨_, rfl, ?_⟩
 refine ⟨_, rfl, ?_⟩
 rw [if_neg ZO]
 exact H1.grows
abbrev newM (l : List Int) (bw bg bi bs bp wb : Nat) (vn vp : Value) : Hm := ⟨⟨l, if l.length = 0 then 4 else 1, 0, -1⟩, bw, bg, bi, bs, bp, wb, vn, vp, .slice none 0 0, .slice none 0 0⟩
theorem Z28 (s : Int) (h : Hd) (y : Sg) : (Z0G s h y).1.asks = h.asks := by
 unfold Z0G
 (repeat' split) <;> rfl
theorem handG (b i : Nat) (vn vp : Value) (l : List Int) (w : World) (hn : IV w vn (ints .i64 (Z1h l))) (hp : vp.oneCell' = true) :
  Z0f P 29 [ptr b, .int .i64 (i : Int), vn, vp] w fun r w' => ∃ bw bg bi bs bp wb, r = .agg (Z0V (newM l bw bg bi bs bp wb vn vp)).toArray ∧ Grow w w' ((hrow b i (newM l bw bg bi bs bp wb vn vp)).take 6) := by
 refine Z0o func29 rfl ntmps29 rfl ?_
 have H0 := St.start w
 have hvn : vn.oneCell' = true := by
  obtain ⟨A, c, rfl, _⟩ := hn
  rfl
 refine Z03 (Z00 ?_)
 refine Z49 H0 rfl rfl rfl ZR (fun b0_0 w1 H1 => ?_)
 refine Z49 H1 rfl rfl rfl ZR (fun b0_1 w2 H2 => ?_)
 refine Z49 H2 rfl rfl rfl ZR (fun b0_2 w3 H3 => ?_)
 refine Z49 H3 rfl rfl rfl ZR (fun b0_3 w4 H4 => ?_)
 refine Z0X H4 ta71 rfl rfl (fun b0_4 w5 H5 => ?_)
 refine Z01 (Z02 ?_)
 refine Zk [4, 5, 6, 7, 8] ?_
 refine Z03 ?_
 have H6 := H5.drewn
 refine Z1a (n := 7) [Zz,Zz,Zz,Zz,Zz,Zz,Zz] (fun wS => (As.blk b0_0 25 [ptr b]).ok wS ∧ (As.blk b0_2 34 [vn]).ok wS) ZK rfl rfl ?_
 apply Zu (L' := [Zy,Zz,Zz,Zz,Zz,Zz,Zz]) 0 (⟨H6.ok mem4, H6.ok mem2⟩)
 ·intro wS sS
  refine Z05 (Z0r sS.1) mem0 rfl rfl underlying25 rfl rfl rfl ?_
  refine Z01 ?_
  exact Z04 rfl
 refine Z0N (L' := [Zy,Zy,Zz,Zz,Zz,Zz,Zz]) 1 rfl ZK ZK ZK rfl rfl rfl (⟨H6.ok mem4, H6.ok mem2⟩) rfl ?_
 apply Zu (L' := [Zy,Zy,Zy,Zz,Zz,Zz,Zz]) 2 (⟨H6.ok mem4, H6.ok mem2⟩)
 ·intro wS sS
  refine Z09 fo63_1 rfl rfl rfl (Z01 ?_)
  exact Z04 rfl
 apply Zu (L' := [Zy,Zy,Zy,Zy,Zz,Zz,Zz]) 3 (⟨H6.ok mem4, H6.ok mem2⟩)
 ·intro wS sS
  refine Z05 (Z0r sS.2) mem0 rfl rfl underlying34 rfl rfl rfl ?_
  refine Z01 ?_
  exact Z04 rfl
 refine Z2B (L' := [Zy,Zy,Zy,Zy,Zy,Zz,Zz]) (L'' := [Zy,Zy,Zy,Zy,Zz,Zy,Zz]) 4 5 ZK rfl rfl rfl rfl ?_ ?_
 ·refine Zc func46 (newW b vn (Z1h l) w5.drew (H6.iarg hn)) ?_
  rintro _ w7 ⟨wb, rfl, hG⟩
  have H7 := hG _ _ _ _ H6
  simp only [Zca, Zna] at H7
  refine Z01 ?_
  refine Z0n (⟨H7.ok mem5, H7.ok mem3⟩) ?_
  refine Z0v (L' := [Zy,Zy,Zy,Zy,Zy,Zy,Zz]) 5 ZK rfl rfl ?_
  refine Z0X H7 ta94 rfl rfl (fun b1_5 w8 H8 => ?_)
  refine Z01 ?_
  refine Z0n (⟨H8.ok mem6, H8.ok mem4⟩) ?_
  refine Z0v (L' := [Zy,Zy,Zy,Zy,Zy,Zy,Zy]) 6 ZK rfl rfl ?_
  refine Z0s H8 .head (by repeat (first | exact .zero | apply Z1F.succ)) rfl tz94 rfl rfl ZR (fun w9 H9 => ?_)
  refine Z01 ?_
  refine Z0n (⟨H9.ok mem6, H9.ok mem4⟩) ?_
  refine Z0B ZK ?_
  refine Z02 ?_
  refine Zk [4, 5, 6, 7, 8, 9] ?_
  refine Z03 (Z00 ?_)
  refine Z1I rfl rfl (.cons rfl .nil) ?_
  refine Z1I rfl rfl (.cons rfl (.cons rfl (.cons rfl (.cons rfl (.cons rfl .nil))))) ?_
  refine Z1I rfl rfl (.cons rfl .nil) ?_
  refine Z16 rfl rfl pl71 ta71 (.one rfl rfl ZR .zero (.one rfl rfl ZR (.succ .zero) (.one rfl rfl ZR (.succ (.succ .zero)) .nil))) ?_
  refine Z0m H9 (.tail (.tail .head)) (.zero (.zero (.zero .nil))) rfl tz71 rfl rfl ZC (fun w10 H10 => ?_)
  refine Z01 (Z02 ?_)
  refine Zk [8] ?_
  refine Z0i ?_
  refine Z2n results29 (.cell rfl (Z0E H10 mem2 underlying71 rfl tz71 (.take (.take (.take .nil)))) .nil) ?_
  refine ⟨_, rfl, ?_⟩
  have H16 := St.frontL (l := [_, _, _, _, _, _]) (St.front5 (St.front4 (St.front3 (St.front2 (St.front2 H10)))))
  simp only [Zca, Zna] at H16
  have H17 := St.frontL (l := [_, _, _, _, _, _]) H16
  simp only [Zca, Zna] at H17
  have H18 := St.del (.tail (.tail (.tail (.tail (.tail (.tail .head)))))) H17
  refine ⟨b1_5, b0_0, b0_1, b0_2, b0_3, wb, rfl, ?_⟩
  rw [show (Z1h l).length = l.length from Z2u l] at H18
  exact H18.grows
 refine Z0X H6 ta94 rfl rfl (fun b1_5 w19 H19 => ?_)
 refine Z01 ?_
 refine Z0n (⟨H19.ok mem5, H19.ok mem3⟩) ?_
 refine Z0v (L' := [Zy,Zy,Zy,Zy,Zy,Zy,Zz]) 4 ZK rfl rfl ?_
 refine Zc func46 (newW b vn (Z1h l) w19 (H19.iarg hn)) ?_
 rintro _ w20 ⟨wb, rfl, hG⟩
 have H20 := hG _ _ _ _ H19
 simp only [Zca, Zna] at H20
 refine Z01 ?_
 refine Z0n (⟨H20.ok mem6, H20.ok mem4⟩) ?_
 refine Z0v (L' := [Zy,Zy,Zy,Zy,Zy,Zy,Zy]) 6 ZK rfl rfl ?_
 refine Z0s H20 (.tail .head) (by repeat (first | exact .zero | apply Z1F.succ)) rfl tz94 rfl rfl ZR (fun w21 H21 => ?_)
 refine Z01 ?_
 refine Z0n (⟨H21.ok mem6, H21.ok mem4⟩) ?_
 refine Z0B ZK ?_
 refine Z02 ?_
 refine Zk [4, 5, 6, 7, 8, 9] ?_
 refine Z03 (Z00 ?_)
 refine Z1I rfl rfl (.cons rfl .nil) ?_
 refine Z1I rfl rfl (.cons rfl (.cons rfl (.cons rfl (.cons rfl (.cons rfl .nil))))) ?_
 refine Z1I rfl rfl (.cons rfl .nil) ?_
 refine Z16 rfl rfl pl71 ta71 (.one rfl rfl ZR .zero (.one rfl rfl ZR (.succ .zero) (.one rfl rfl ZR (.succ (.succ .zero)) .nil))) ?_
 refine Z0m H21 (.tail (.tail .head)) (.zero (.zero (.zero .nil))) rfl tz71 rfl rfl ZC (fun w22 H22 => ?_)
 refine Z01 (Z02 ?_)
 refine Zk [8] ?_
 refine Z0i ?_
 refine Z2n results29 (.cell rfl (Z0E H22 mem2 underlying71 rfl tz71 (.take (.take (.take .nil)))) .nil) ?_
 refine ⟨_, rfl, ?_⟩
 have H28 := St.frontL (l := [_, _, _, _, _, _]) (St.front5 (St.front4 (St.front3 (St.front1 (St.front2 H22)))))
 simp only [Zca, Zna] at H28
 have H29 := St.frontL (l := [_, _, _, _, _, _]) H28
 simp only [Zca, Zna] at H29
 have H30 := St.del (.tail (.tail (.tail (.tail (.tail (.tail .head)))))) H29
 refine ⟨b1_5, b0_0, b0_1, b0_2, b0_3, wb, rfl, ?_⟩
 rw [show (Z1h l).length = l.length from Z2u l] at H30
 exact H30.grows
theorem mayC (b : Nat) (X : Gm) (m : Hm) (s : Nat) (hs : s < 41) (y : Sm) (hy : X.sg[s]? = some y) (c : Int) (hyv : y.v.oneCell' = true) (hnx : m.h.line = 1 → m.h.nx < m.h.asks.length ∧ Z1d m.h = (s : Int)) (w : World) (hb : (As.blk b 63 (gC X)).ok w) (hbw : (As.blk m.bw 94 [ptr m.wb]).ok w) (hk : (As.blk m.wb 109 (wkC b m)).ok w) (hn : IV w m.vn (ints .i64 (Z1h m.h.asks))) :
  Z0f P 47 [.int .i64 c, ptr m.bw] w fun r w' => r = .bool (decide (c = 0 ∧ mayH m.h y.s = true)) ∧ Grow w w' [] := by
 refine Z0o func47 rfl ntmps47 rfl ?_
 have H0 := St.start w
 refine Z03 (Z00 (Zg (Z01 (Z02 ?_))))
 refine Zk [0, 1] ?_
 refine Z03 (Z00 (Zm ?_))
 refine Ze ?_
 refine Zm ?_
 apply l_andS H0 2 [] rfl rfl (.cons rfl .nil) rfl rfl (fun _ => rfl) rfl rfl rfl
 ·intro hg1_3
  refine Z05 (Z0r (Z0S H0 hbw)) mem0 rfl rfl underlying94 rfl rfl (rfl) ?_
  refine Zc func48 (MayW b X m s hs y hy hyv hnx w (Z0S H0 hb) (Z0S H0 hk) (H0.iarg hn)) ?_
  rintro _ w1 ⟨rfl, hG⟩
  have H1 := hG _ _ _ _ H0
  simp only [Zca, Zna] at H1
  refine Z0j (s := 8) (v' := .bool (decide (mayH m.h y.s = true))) rfl (by simp) ?_
  refine Z01 ?_
  exact Z1P H1 rfl (.cons rfl (ZT hg1_3) .nil)
  all_goals infer_instance
 intro w2 H2
 refine Zg (Z01 (Z02 ?_))
 refine Zk [3] ?_
 refine Z0i ?_
 refine Z0e results47 rfl ?_
 refine ⟨_, rfl, ?_⟩
 exact ⟨rfl, H2.grows⟩
theorem atC (b : Nat) (m : Hm) (hnx : (m.h.line = 2 ∨ m.h.line = 3) → m.h.nx < m.h.asks.length) (w : World) (hbw : (As.blk m.bw 94 [ptr m.wb]).ok w) (hk : (As.blk m.wb 109 (wkC b m)).ok w) (hn : IV w m.vn (ints .i64 (Z1h m.h.asks))) :
  Z0f P 53 [ptr m.bw] w fun r w' => r = .agg #[.int .i64 m.h.line, .int .i64 (m.h.nx : Int), .int .i64 (if m.h.line = 2 ∨ m.h.line = 3 then Z1d m.h else -1)] ∧ Grow w w' [] := by
 refine Z0o func53 rfl ntmps53 rfl ?_
 have H0 := St.start w
 refine Z03 (Z00 ?_)
 refine Z0X H0 ta44 rfl rfl (fun b0_0 w1 H1 => ?_)
 refine Z01 (Z02 (Z03 ?_))
 have H2 := H1.drewn
 refine Z1a (n := 8) [Zz,Zz,Zz,Zz,Zz,Zz,Zz,Zz] (fun wS => (As.blk m.bw 94 [ptr m.wb]).ok wS) ZK rfl rfl ?_
 apply Zu (L' := [Zy,Zz,Zz,Zz,Zz,Zz,Zz,Zz]) 0 (Z0S H2 hbw)
 ·intro wS sS
  refine Z05 (Z0r sS) mem0 rfl rfl underlying94 rfl rfl rfl ?_
  refine Z01 ?_
  exact Z04 rfl
 apply Zu (L' := [Zy,Zz,Zy,Zz,Zz,Zz,Zz,Zz]) 2 (Z0S H2 hbw)
 ·intro wS sS
  refine Z05 (Z0r sS) mem0 rfl rfl underlying94 rfl rfl rfl ?_
  refine Z01 ?_
  exact Z04 rfl
 apply Zu (L' := [Zy,Zz,Zy,Zz,Zy,Zz,Zz,Zz]) 4 (Z0S H2 hbw)
 ·intro wS sS
  refine Z05 (Z0r sS) mem0 rfl rfl underlying94 rfl rfl rfl ?_
  refine Z01 ?_
  exact Z04 rfl
 refine Z0v (L' := [Zy,Zy,Zy,Zz,Zy,Zz,Zz,Zz]) 1 ZK rfl rfl ?_
 refine Zp func54 (LineW b m w1.drew (Z0S H2 hk)) ?_
 refine Z01 ?_
 refine Z0n (Z0S H2 hbw) ?_
 refine Z0v (L' := [Zy,Zy,Zy,Zy,Zy,Zz,Zz,Zz]) 3 ZK rfl rfl ?_
 refine Zp func50 (NextW b m w1.drew (Z0S H2 hk)) ?_
 refine Z01 ?_
 refine Z0n (Z0S H2 hbw) ?_
 refine Z0v (L' := [Zy,Zy,Zy,Zy,Zy,Zy,Zz,Zz]) 5 ZK rfl rfl ?_
 refine Zc func55 (SegmentW b m hnx w1.drew (Z0S H2 hk) (H2.iarg hn)) ?_
 rintro _ w3 ⟨rfl, hG⟩
 have H3 := hG _ _ _ _ H2
 simp only [Zca, Zna] at H3
 refine Z01 ?_
 refine Z0n (Z0S H3 hbw) ?_
 refine Z0v (L' := [Zy,Zy,Zy,Zy,Zy,Zy,Zy,Zz]) 6 ZK rfl rfl ?_
 refine Z16 rfl rfl pl44 ta44 (.one rfl rfl ZR .zero (.one rfl rfl ZR (.succ .zero) (.one rfl rfl ZR (.succ (.succ .zero)) .nil))) ?_
 refine Z01 ?_
 refine Z0n (Z0S H3 hbw) ?_
 refine Z0v (L' := [Zy,Zy,Zy,Zy,Zy,Zy,Zy,Zy]) 7 ZK rfl rfl ?_
 refine Z0m H3 .head (.zero (.zero (.zero .nil))) rfl tz44 rfl rfl ZC (fun w4 H4 => ?_)
 refine Z01 ?_
 refine Z0n (Z0S H4 hbw) ?_
 refine Z0B ZK ?_
 refine Z02 ?_
 refine Zk [1] ?_
 refine Z0i ?_
 refine Z2n results53 (.cell rfl (Z0E H4 mem0 underlying44 rfl tz44 (.take (.take (.take .nil)))) .nil) ?_
 refine ⟨_, rfl, ?_⟩
 have H5 := St.del .head H4
 exact ⟨rfl, H5.grows⟩
abbrev mDo (s : Nat) (m : Hm) (y : Sm) (vt vd : Value) : Hm := { m with h := (Z0G (s : Int) m.h y.s).1, vt := vt, vd := vd }
abbrev XDo (X : Gm) (i : Nat) (m : Hm) (s : Nat) (y : Sm) : Gm := { X with hs := X.hs.set i m, sg := X.sg.set s y }
abbrev dW (b : Nat) (X : Gm) (i : Nat) (m : Hm) (s : Nat) (y : Sm) : List As :=
  [As.blk b 63 (gC X), As.ro 47 X.vr (X.hs.map (·.vd)), As.blk m.bw 94 [ptr m.wb], As.blk m.bg 25 [ptr b], As.blk m.bi 3 [.int .i64 (i : Int)], As.blk m.bs 34 [m.vn], As.blk m.bp 34 [m.vp], As.blk m.wb 109 (wkC b m),
   As.ri 3 .i64 m.vn (Z1h m.h.asks), As.ri 3 .i64 m.vp (Z2a m.h.asks), As.rk 85 2 m.vt (takR m.h.tk), As.rk 85 2 m.vd (Z0Y (m.h.asks.take m.h.nx)), srow s y]
theorem stepH_rd {s : Int} {h : Hd} {y : Sg} (hl : h.line = 1 ∨ h.line = 2 ∨ h.line = 3) (hr : (decide (h.line = 1) && y.done) = true) : Z0G s h y = ({ h with nx := h.nx + 1, line := if h.nx + 1 = h.asks.length then 4 else 1 }, y) := by
 simp at hr
 unfold Z0G
 rw [if_neg ZO, if_neg ZO, if_neg (by simp [hr.2])]
theorem stepH_nx {s : Int} {h : Hd} {y : Sg} (hl : h.line = 1 ∨ h.line = 2 ∨ h.line = 3) (hr : ¬ (decide (h.line = 1) && y.done) = true) : (Z0G s h y).1.nx = h.nx := by
 simp at hr
 unfold Z0G
 split
 ·rfl
 split
 ·rfl
 rw [if_pos (hr ZO)]
theorem Z30 {l : List Int} {n : Nat} (h : n < l.length) : Z0Y (l.take (n + 1)) = Z0Y (l.take n) ++ [wrow (entS (l.getD n 0)).1] := by
 rw [List.take_add_one, List.getElem?_eq_getElem h]
 simp only [Z0Y, List.map_append, List.map_cons, List.map_nil, Option.toList_some, List.getD_eq_getElem?_getD, List.getElem?_eq_getElem h, Option.getD_some]
theorem Z2v (l : List Int) : Z1g 2 (Z0Y l) := fun r hr => by
 obtain ⟨q, _, rfl⟩ := List.mem_map.1 hr
 exact ⟨rfl, by simp [Value.oneCell']⟩
theorem where_at {q : Int} (hq : -342 ≤ q ∧ q ≤ 308) : (Z0M (Z0K q).1).1 + (Z0K q).2.1 = q ∧ (Z0K q).2.1 < Z15 (Z0K q).1 := by
 have e : Z0K q = ((q + 342) / 16, (q + 342) % 16, 0) := if_neg ZO
 rw [e]
 unfold Z15 Z0M
 dsimp only
 rw [if_neg ZO]
 dsimp only
 refine ⟨ZO, ?_⟩
 split <;> omega
theorem doC2 (b i : Nat) (X : Gm) (m : Hm) (s : Nat) (hs : s < 41) (y : Sm) (hy : X.sg[s]? = some y) (hm : X.hs[i]? = some m) (hX41 : X.sg.length = 41) (c : Int) (hok : WkOk s m.h y.s) (hq : ∀ q ∈ m.h.asks, -342 ≤ q ∧ q ≤ 308) (hdn : y.s.done = true → y.s.laid = Z15 (s : Int)) (w : World) (hS : Sep w.heap.size (fps (dW b X i m s y)) w (dW b X i m s y)) :
  Z0f P 49 [.int .i64 c, ptr m.bw, ptr m.bg, ptr m.bi, ptr m.bs, ptr m.bp] w fun r w' => ∃ vt vd v, r = .tuple #[] ∧ Z1C w w' (dW b X i m s y) (dW b (XDo X i (mDo s m y vt vd) s (ySt s m y v)) i (mDo s m y vt vd) s (ySt s m y v)) := by
 refine Z0o func49 rfl ntmps49 rfl ?_
 have H0 : St w w.heap.size (fps (dW b X i m s y)) (dW b X i m s y) w := St.startS hS
 have hvd : m.vd.oneCell' = true := Z1O ((St.startS hS).ok Z1e)
 have hal : m.h.asks.length ≤ 64 := hok.al
 have hnx := hok.nx
 have hkl := hok.line
 have hil := (List.getElem?_eq_some_iff.1 hm).1
 refine Zk [1, 2, 3, 4, 5] ?_
 refine Z03 (Z00 ?_)
 refine Z05 H0 mem2 rfl rfl underlying94 rfl rfl rfl ?_
 refine Zp func50 (NextW b m w (H0.ok mem7)) ?_
 refine Zg (Z01 (Z02 ?_))
 refine Zk [1, 2, 3, 4, 5, 7] ?_
 refine Z03 (Z00 ?_)
 refine Z05 H0 mem2 rfl rfl underlying94 rfl rfl rfl ?_
 have H1 := St.frontL (l := [_, _, _, _, _, _, _, _, _, _, _, _]) H0
 simp only [Zca, Zna] at H1
 have H2 := St.frontL (l := [_, _, _, _, _, _, _, _, _, _, _]) H1
 simp only [Zca, Zna] at H2
 have H3 := St.frontL (l := [_, _, _, _, _, _, _, _, _, _]) H2
 simp only [Zca, Zna] at H3
 have H4 := St.frontL (l := [_, _, _, _, _, _, _, _, _, _]) H3
 simp only [Zca, Zna] at H4
 have H5 := St.frontL (l := [_, _, _, _]) H4
 simp only [Zca, Zna] at H5
 refine Zc func51 (DoW b X m s hs y hy hok w (St.rows (τ := wkR b X m s y) H5)) ?_
 rintro _ w6 ⟨vt, v, rfl, hX2⟩
 have H6 := hX2 _ _ _ _ H5
 simp only [wkR, List.cons_append, List.nil_append] at H6
 rw [show (mSt s m y vt).h.asks = m.h.asks from Z28 _ _ _] at H6
 refine Z01 (Z02 ?_)
 refine Zk [2, 3, 4, 5, 7, 11] ?_
 (first | refine Z0c rfl ?_ ?_ | refine Z08 rfl ?_ ?_) <;> intro hc0
 ·have H7 := H6.drewn
  have hres := stepH_rd (s := (s : Int)) hkl hc0
  have hys : (ySt s m y v).s.laid = y.s.laid := by
   show (Z0G (s : Int) m.h y.s).2.laid = _
   rw [hres]
  have hdone : y.s.done = true := by simp at hc0; exact hc0.2
  have hvl : (X.hs.map (·.vd)).length = X.hs.length := List.length_map _
  have hln : (Z1h m.h.asks).length = m.h.asks.length := Z2u _
  have hlp : (Z2a m.h.asks).length = m.h.asks.length := plcsA_len _
  obtain ⟨Ar, cr, hvr2⟩ := (H7.io mem5).lies ZO
  obtain ⟨An, cn, hvn2⟩ := (H7.io mem2).lies (by simp; omega)
  obtain ⟨Ap, cp, hvp2⟩ := (H7.io Z1e).lies (by simp; omega)
  have hsg := Z3P m.h.asks
  have hpg := plcsA_rg m.h.asks
  have hqm : m.h.asks.getD m.h.nx 0 ∈ m.h.asks := by simp [List.getD, hnx]
  have hwa := where_at (hq _ hqm)
  have hws : (Z0K (m.h.asks.getD m.h.nx 0)).1 = (s : Int) := hok.want
  have hwb := Z2Y (m.h.asks.getD m.h.nx 0)
  rw [hws] at hwa
  refine Z1a (n := 28) [Zz,Zz,Zz,Zz,Zz,Zz,Zz,Zz,Zz,Zz,Zz,Zz,Zz,Zz,Zz,Zz,Zz,Zz,Zz,Zz,Zz,Zz,Zz,Zz,Zz,Zz,Zz,Zz] (fun wS => (As.blk m.bg 25 [ptr b]).ok wS ∧ (As.blk m.bi 3 [.int .i64 (i : Int)]).ok wS ∧ (As.blk m.bs 34 [m.vn]).ok wS ∧ (As.blk m.bp 34 [m.vp]).ok wS ∧ (As.blk b 63 (gC ({ X with sg := X.sg.set s (ySt s m y v) } : Gm))).ok wS ∧ IS wS .i64 m.vn (Z1h m.h.asks) ∧ IS wS .i64 m.vp (Z2a m.h.asks)) ZK rfl rfl ?_
  apply Zu (L' := [Zy,Zz,Zz,Zz,Zz,Zz,Zz,Zz,Zz,Zz,Zz,Zz,Zz,Zz,Zz,Zz,Zz,Zz,Zz,Zz,Zz,Zz,Zz,Zz,Zz,Zz,Zz,Zz]) 0 (⟨H7.ok mem7, H7.ok mem8, H7.ok mem9, H7.ok Z1k, H7.ok mem0, H7.io mem2, H7.io Z1e⟩)
  ·intro wS sS
   refine Z05 (Z0r sS.1) mem0 rfl rfl underlying25 rfl rfl rfl ?_
   refine Z01 ?_
   exact Z04 rfl
  refine Z0N (L' := [Zy,Zy,Zz,Zz,Zz,Zz,Zz,Zz,Zz,Zz,Zz,Zz,Zz,Zz,Zz,Zz,Zz,Zz,Zz,Zz,Zz,Zz,Zz,Zz,Zz,Zz,Zz,Zz]) 1 rfl ZK ZK ZK rfl rfl rfl (⟨H7.ok mem7, H7.ok mem8, H7.ok mem9, H7.ok Z1k, H7.ok mem0, H7.io mem2, H7.io Z1e⟩) rfl ?_
  apply Zu (L' := [Zy,Zy,Zy,Zz,Zz,Zz,Zz,Zz,Zz,Zz,Zz,Zz,Zz,Zz,Zz,Zz,Zz,Zz,Zz,Zz,Zz,Zz,Zz,Zz,Zz,Zz,Zz,Zz]) 2 (⟨H7.ok mem7, H7.ok mem8, H7.ok mem9, H7.ok Z1k, H7.ok mem0, H7.io mem2, H7.io Z1e⟩)
  ·intro wS sS
   refine Z09 fo63_2 rfl rfl rfl (Z01 ?_)
   exact Z04 rfl
  apply Zu (L' := [Zy,Zy,Zy,Zy,Zz,Zz,Zz,Zz,Zz,Zz,Zz,Zz,Zz,Zz,Zz,Zz,Zz,Zz,Zz,Zz,Zz,Zz,Zz,Zz,Zz,Zz,Zz,Zz]) 3 (⟨H7.ok mem7, H7.ok mem8, H7.ok mem9, H7.ok Z1k, H7.ok mem0, H7.io mem2, H7.io Z1e⟩)
  ·intro wS sS
   refine Z05 (Z0r sS.2.2.2.2.1) mem0 rfl rfl underlying53 rfl rfl (gC_vr (by simpa using hX41)) ?_
   refine Z01 ?_
   exact Z04 rfl
  apply Zu (L' := [Zy,Zy,Zy,Zy,Zy,Zz,Zz,Zz,Zz,Zz,Zz,Zz,Zz,Zz,Zz,Zz,Zz,Zz,Zz,Zz,Zz,Zz,Zz,Zz,Zz,Zz,Zz,Zz]) 4 (⟨H7.ok mem7, H7.ok mem8, H7.ok mem9, H7.ok Z1k, H7.ok mem0, H7.io mem2, H7.io Z1e⟩)
  ·intro wS sS
   refine Z05 (Z0r sS.2.1) mem0 rfl rfl underlying3 rfl rfl rfl ?_
   refine Z01 ?_
   exact Z04 rfl
  apply Zu (L' := [Zy,Zy,Zy,Zy,Zy,Zy,Zz,Zz,Zz,Zz,Zz,Zz,Zz,Zz,Zz,Zz,Zz,Zz,Zz,Zz,Zz,Zz,Zz,Zz,Zz,Zz,Zz,Zz]) 5 (⟨H7.ok mem7, H7.ok mem8, H7.ok mem9, H7.ok Z1k, H7.ok mem0, H7.io mem2, H7.io Z1e⟩)
  ·intro wS sS
   refine Z05 (Z0r sS.1) mem0 rfl rfl underlying25 rfl rfl rfl ?_
   refine Z01 ?_
   exact Z04 rfl
  refine Z0N (L' := [Zy,Zy,Zy,Zy,Zy,Zy,Zy,Zz,Zz,Zz,Zz,Zz,Zz,Zz,Zz,Zz,Zz,Zz,Zz,Zz,Zz,Zz,Zz,Zz,Zz,Zz,Zz,Zz]) 6 rfl ZK ZK ZK rfl rfl rfl (⟨H7.ok mem7, H7.ok mem8, H7.ok mem9, H7.ok Z1k, H7.ok mem0, H7.io mem2, H7.io Z1e⟩) rfl ?_
  apply Zu (L' := [Zy,Zy,Zy,Zy,Zy,Zy,Zy,Zy,Zz,Zz,Zz,Zz,Zz,Zz,Zz,Zz,Zz,Zz,Zz,Zz,Zz,Zz,Zz,Zz,Zz,Zz,Zz,Zz]) 7 (⟨H7.ok mem7, H7.ok mem8, H7.ok mem9, H7.ok Z1k, H7.ok mem0, H7.io mem2, H7.io Z1e⟩)
  ·intro wS sS
   refine Z09 fo63_2 rfl rfl rfl (Z01 ?_)
   exact Z04 rfl
  apply Zu (L' := [Zy,Zy,Zy,Zy,Zy,Zy,Zy,Zy,Zy,Zz,Zz,Zz,Zz,Zz,Zz,Zz,Zz,Zz,Zz,Zz,Zz,Zz,Zz,Zz,Zz,Zz,Zz,Zz]) 8 (⟨H7.ok mem7, H7.ok mem8, H7.ok mem9, H7.ok Z1k, H7.ok mem0, H7.io mem2, H7.io Z1e⟩)
  ·intro wS sS
   refine Z05 (Z0r sS.2.2.2.2.1) mem0 rfl rfl underlying53 rfl rfl (gC_vr (by simpa using hX41)) ?_
   refine Z01 ?_
   exact Z04 rfl
  apply Zu (L' := [Zy,Zy,Zy,Zy,Zy,Zy,Zy,Zy,Zy,Zy,Zz,Zz,Zz,Zz,Zz,Zz,Zz,Zz,Zz,Zz,Zz,Zz,Zz,Zz,Zz,Zz,Zz,Zz]) 9 (⟨H7.ok mem7, H7.ok mem8, H7.ok mem9, H7.ok Z1k, H7.ok mem0, H7.io mem2, H7.io Z1e⟩)
  ·intro wS sS
   refine Z05 (Z0r sS.2.1) mem0 rfl rfl underlying3 rfl rfl rfl ?_
   refine Z01 ?_
   exact Z04 rfl
  apply Zu (L' := [Zy,Zy,Zy,Zy,Zy,Zy,Zy,Zy,Zy,Zy,Zy,Zz,Zz,Zz,Zz,Zz,Zz,Zz,Zz,Zz,Zz,Zz,Zz,Zz,Zz,Zz,Zz,Zz]) 10 (⟨H7.ok mem7, H7.ok mem8, H7.ok mem9, H7.ok Z1k, H7.ok mem0, H7.io mem2, H7.io Z1e⟩)
  ·intro wS sS
   refine Z1c (j := i) rfl rfl underlying53 tz47 rfl rfl hvr2 ZP ZI ?_
   refine Z01 ?_
   exact Z04 rfl
  apply Zu (L' := [Zy,Zy,Zy,Zy,Zy,Zy,Zy,Zy,Zy,Zy,Zy,Zz,Zy,Zz,Zz,Zz,Zz,Zz,Zz,Zz,Zz,Zz,Zz,Zz,Zz,Zz,Zz,Zz]) 12 (⟨H7.ok mem7, H7.ok mem8, H7.ok mem9, H7.ok Z1k, H7.ok mem0, H7.io mem2, H7.io Z1e⟩)
  ·intro wS sS
   refine Z05 (Z0r sS.1) mem0 rfl rfl underlying25 rfl rfl rfl ?_
   refine Z01 ?_
   exact Z04 rfl
  refine Z0N (L' := [Zy,Zy,Zy,Zy,Zy,Zy,Zy,Zy,Zy,Zy,Zy,Zz,Zy,Zy,Zz,Zz,Zz,Zz,Zz,Zz,Zz,Zz,Zz,Zz,Zz,Zz,Zz,Zz]) 13 rfl ZK ZK ZK rfl rfl rfl (⟨H7.ok mem7, H7.ok mem8, H7.ok mem9, H7.ok Z1k, H7.ok mem0, H7.io mem2, H7.io Z1e⟩) rfl ?_
  apply Zu (L' := [Zy,Zy,Zy,Zy,Zy,Zy,Zy,Zy,Zy,Zy,Zy,Zz,Zy,Zy,Zy,Zz,Zz,Zz,Zz,Zz,Zz,Zz,Zz,Zz,Zz,Zz,Zz,Zz]) 14 (⟨H7.ok mem7, H7.ok mem8, H7.ok mem9, H7.ok Z1k, H7.ok mem0, H7.io mem2, H7.io Z1e⟩)
  ·intro wS sS
   refine Z09 fo63_1 rfl rfl rfl (Z01 ?_)
   exact Z04 rfl
  apply Zu (L' := [Zy,Zy,Zy,Zy,Zy,Zy,Zy,Zy,Zy,Zy,Zy,Zz,Zy,Zy,Zy,Zy,Zz,Zz,Zz,Zz,Zz,Zz,Zz,Zz,Zz,Zz,Zz,Zz]) 15 (⟨H7.ok mem7, H7.ok mem8, H7.ok mem9, H7.ok Z1k, H7.ok mem0, H7.io mem2, H7.io Z1e⟩)
  ·intro wS sS
   refine Z05 (Z0r sS.2.2.1) mem0 rfl rfl underlying34 rfl rfl rfl ?_
   refine Z01 ?_
   exact Z04 rfl
  apply Zu (L' := [Zy,Zy,Zy,Zy,Zy,Zy,Zy,Zy,Zy,Zy,Zy,Zz,Zy,Zy,Zy,Zy,Zy,Zz,Zz,Zz,Zz,Zz,Zz,Zz,Zz,Zz,Zz,Zz]) 16 (⟨H7.ok mem7, H7.ok mem8, H7.ok mem9, H7.ok Z1k, H7.ok mem0, H7.io mem2, H7.io Z1e⟩)
  ·intro wS sS
   refine Zm (Z01 ?_)
   exact Z04 rfl
  apply Zu (L' := [Zy,Zy,Zy,Zy,Zy,Zy,Zy,Zy,Zy,Zy,Zy,Zz,Zy,Zy,Zy,Zy,Zy,Zy,Zz,Zz,Zz,Zz,Zz,Zz,Zz,Zz,Zz,Zz]) 17 (⟨H7.ok mem7, H7.ok mem8, H7.ok mem9, H7.ok Z1k, H7.ok mem0, H7.io mem2, H7.io Z1e⟩)
  ·intro wS sS
   refine Z1c (j := m.h.nx) rfl rfl underlying34 tz3 rfl rfl hvn2 ZP ZI ?_
   refine Z01 ?_
   exact Z04 rfl
  apply Zu (L' := [Zy,Zy,Zy,Zy,Zy,Zy,Zy,Zy,Zy,Zy,Zy,Zz,Zy,Zy,Zy,Zy,Zy,Zy,Zy,Zz,Zz,Zz,Zz,Zz,Zz,Zz,Zz,Zz]) 18 (⟨H7.ok mem7, H7.ok mem8, H7.ok mem9, H7.ok Z1k, H7.ok mem0, H7.io mem2, H7.io Z1e⟩)
  ·intro wS sS
   refine Z1u rfl rfl underlying3 rfl hvn2 (by first | exact sS.2.2.2.2.2.1 | exact sS.2.2.2.2.2.2 | exact H7.ibl mem0 | exact H7.ibl mem1 | exact H7.io mem2 | exact H7.ik ZA mem3 | exact H7.ik ZA mem4 | exact H7.io mem5 | exact H7.ibl mem6 | exact H7.ibl mem7 | exact H7.ibl mem8 | exact H7.ibl mem9 | exact H7.ibl Z1k | exact H7.io Z1e | exact H7.ik ZA Z34 | assumption) ZA ZI (fun hb2_18 => ?_)
   refine Z01 ?_
   exact Z04 rfl
  apply Zu (L' := [Zy,Zy,Zy,Zy,Zy,Zy,Zy,Zy,Zy,Zy,Zy,Zz,Zy,Zy,Zy,Zy,Zy,Zy,Zy,Zy,Zz,Zz,Zz,Zz,Zz,Zz,Zz,Zz]) 19 (⟨H7.ok mem7, H7.ok mem8, H7.ok mem9, H7.ok Z1k, H7.ok mem0, H7.io mem2, H7.io Z1e⟩)
  ·intro wS sS
   refine Z05 (Z0r sS.2.2.2.1) mem0 rfl rfl underlying34 rfl rfl rfl ?_
   refine Z01 ?_
   exact Z04 rfl
  apply Zu (L' := [Zy,Zy,Zy,Zy,Zy,Zy,Zy,Zy,Zy,Zy,Zy,Zz,Zy,Zy,Zy,Zy,Zy,Zy,Zy,Zy,Zy,Zz,Zz,Zz,Zz,Zz,Zz,Zz]) 20 (⟨H7.ok mem7, H7.ok mem8, H7.ok mem9, H7.ok Z1k, H7.ok mem0, H7.io mem2, H7.io Z1e⟩)
  ·intro wS sS
   refine Zm (Z01 ?_)
   exact Z04 rfl
  apply Zu (L' := [Zy,Zy,Zy,Zy,Zy,Zy,Zy,Zy,Zy,Zy,Zy,Zz,Zy,Zy,Zy,Zy,Zy,Zy,Zy,Zy,Zy,Zy,Zz,Zz,Zz,Zz,Zz,Zz]) 21 (⟨H7.ok mem7, H7.ok mem8, H7.ok mem9, H7.ok Z1k, H7.ok mem0, H7.io mem2, H7.io Z1e⟩)
  ·intro wS sS
   refine Z1c (j := m.h.nx) rfl rfl underlying34 tz3 rfl rfl hvp2 ZP ZI ?_
   refine Z01 ?_
   exact Z04 rfl
  apply Zu (L' := [Zy,Zy,Zy,Zy,Zy,Zy,Zy,Zy,Zy,Zy,Zy,Zz,Zy,Zy,Zy,Zy,Zy,Zy,Zy,Zy,Zy,Zy,Zy,Zz,Zz,Zz,Zz,Zz]) 22 (⟨H7.ok mem7, H7.ok mem8, H7.ok mem9, H7.ok Z1k, H7.ok mem0, H7.io mem2, H7.io Z1e⟩)
  ·intro wS sS
   refine Z1u rfl rfl underlying3 rfl hvp2 (by first | exact sS.2.2.2.2.2.1 | exact sS.2.2.2.2.2.2 | exact H7.ibl mem0 | exact H7.ibl mem1 | exact H7.io mem2 | exact H7.ik ZA mem3 | exact H7.ik ZA mem4 | exact H7.io mem5 | exact H7.ibl mem6 | exact H7.ibl mem7 | exact H7.ibl mem8 | exact H7.ibl mem9 | exact H7.ibl Z1k | exact H7.io Z1e | exact H7.ik ZA Z34 | assumption) ZA ZI (fun hb2_22 => ?_)
   refine Z01 ?_
   exact Z04 rfl
  refine Z2B (L' := [Zy,Zy,Zy,Zy,Zy,Zy,Zy,Zy,Zy,Zy,Zy,Zy,Zy,Zy,Zy,Zy,Zy,Zy,Zy,Zy,Zy,Zy,Zy,Zz,Zz,Zz,Zz,Zz]) (L'' := [Zy,Zy,Zy,Zy,Zy,Zy,Zy,Zy,Zy,Zy,Zy,Zz,Zy,Zy,Zy,Zy,Zy,Zy,Zy,Zy,Zy,Zy,Zy,Zy,Zz,Zz,Zz,Zz]) 11 23 ZK rfl rfl rfl rfl ?_ ?_
  ·refine l_load rfl rfl underlying47 rfl rfl (sl_of hvr2 (H7.io mem5)) (show (X.hs.map (·.vd))[i]? = some m.vd by rw [List.getElem?_map, hm]; rfl) ?_
   refine Z01 ?_
   refine Z0n (⟨H7.ok mem7, H7.ok mem8, H7.ok mem9, H7.ok Z1k, H7.ok mem0, H7.io mem2, H7.io Z1e⟩) ?_
   refine Z0v (L' := [Zy,Zy,Zy,Zy,Zy,Zy,Zy,Zy,Zy,Zy,Zy,Zy,Zy,Zy,Zy,Zy,Zy,Zy,Zy,Zy,Zy,Zy,Zy,Zy,Zz,Zz,Zz,Zz]) 23 ZK rfl rfl ?_
   refine Z0j (s := 30) (v' := .int .i64 (s : Int)) rfl (congrArg (Value.int .i64) (by rw [Z2Q hnx]; exact hws)) ?_
   refine Z0j (s := 34) (v' := .int .i64 (((Z0K (m.h.asks.getD m.h.nx 0)).2.1.toNat : Nat) : Int)) rfl (congrArg (Value.int .i64) (by rw [plcsA_get hnx]; omega)) ?_
   refine Z0I rfl rfl func52 rfl rfl (.cons rfl (.cons rfl (.cons rfl .nil))) (RowT b ({ X with sg := X.sg.set s (ySt s m y v) }) (by simpa using hX41) s ((Z0K (m.h.asks.getD m.h.nx 0)).2.1.toNat) hs (ySt s m y v) (set_at hy) (by rw [hys]; have := hdn hdone; omega) (by rw [hys]; have := hdn hdone; omega) w6.drew (H7.ok mem0) (Own.ik (Z1R _ _) (H7.ok mem4))) ?_
   rintro _ w8 ⟨rfl, hG⟩
   have H8 := hG _ _ _ _ H7
   simp only [Zca, Zna] at H8
   refine Z0j (s := 35) (v' := Z44 (entS (m.h.asks.getD m.h.nx 0)).1) rfl (by rw [Int.toNat_of_nonneg hwb.2.1, hwa.1]) ?_
   refine Z01 ?_
   refine Z0n (⟨H8.ok mem7, H8.ok mem8, H8.ok mem9, H8.ok Z1k, H8.ok mem0, H8.io mem2, H8.io Z1e⟩) ?_
   refine Z0v (L' := [Zy,Zy,Zy,Zy,Zy,Zy,Zy,Zy,Zy,Zy,Zy,Zy,Zy,Zy,Zy,Zy,Zy,Zy,Zy,Zy,Zy,Zy,Zy,Zy,Zy,Zz,Zz,Zz]) 24 ZK rfl rfl ?_
   refine Z2t H8 rfl rfl underlying47 ti85 rfl rfl rfl (fun b2_24 w9 H9 => ?_)
   refine Z01 ?_
   refine Z0n (⟨H9.ok mem8, H9.ok mem9, H9.ok Z1k, H9.ok Z1e, H9.ok mem1, H9.io mem3, H9.io Z34⟩) ?_
   refine Z0v (L' := [Zy,Zy,Zy,Zy,Zy,Zy,Zy,Zy,Zy,Zy,Zy,Zy,Zy,Zy,Zy,Zy,Zy,Zy,Zy,Zy,Zy,Zy,Zy,Zy,Zy,Zy,Zz,Zz]) 25 ZK rfl rfl ?_
   have H10 := St.frontL (l := [_, _, _, _, _, _, _, _, _, _, _, _, _]) H9
   simp only [Zca, Zna] at H10
   refine Z19 (r := wrow (entS (m.h.asks.getD m.h.nx 0)).1) H10 rfl rfl underlying47 ti85 rfl rfl rfl rfl (Z1M (H10.ok mem1)) (by simp [Value.oneCell']) (by simp [Z0Y]; omega) (by simp [Z0Y]; omega) (fun v2_25 w11 H11 => ?_)
   refine Z01 ?_
   refine Z0n (⟨H11.ok mem9, H11.ok Z1k, H11.ok Z1e, H11.ok Z34, H11.ok mem2, H11.io mem4, H11.io Z4G⟩) ?_
   apply Zu (L' := [Zy,Zy,Zy,Zy,Zy,Zy,Zy,Zy,Zy,Zy,Zy,Zy,Zy,Zy,Zy,Zy,Zy,Zy,Zy,Zy,Zy,Zy,Zy,Zy,Zy,Zy,Zy,Zz]) 26 (⟨H11.ok mem9, H11.ok Z1k, H11.ok Z1e, H11.ok Z34, H11.ok mem2, H11.io mem4, H11.io Z4G⟩)
   ·intro wS sS
    refine Z1c (j := i) rfl rfl underlying53 tz47 rfl rfl hvr2 ZP ZI ?_
    refine Z01 ?_
    exact Z04 rfl
   refine Z0v (L' := [Zy,Zy,Zy,Zy,Zy,Zy,Zy,Zy,Zy,Zy,Zy,Zy,Zy,Zy,Zy,Zy,Zy,Zy,Zy,Zy,Zy,Zy,Zy,Zy,Zy,Zy,Zy,Zy]) 27 ZK rfl rfl ?_
   have H12 := St.frontL (l := [_, _, _, _, _, _, _]) H11
   simp only [Zca, Zna] at H12
   refine Z4I (j := i) H12 .head hvr2 rfl tz47 rfl rfl ZO (Z1O (H12.ok mem1)) (fun w13 H13 => ?_)
   refine Z01 ?_
   refine Z0n (⟨H13.ok mem9, H13.ok Z1k, H13.ok Z1e, H13.ok Z34, H13.ok mem3, H13.io mem5, H13.io Z4G⟩) ?_
   refine Z0B ZK ?_
   try dsimp only
   refine Z1o results49 ?_
   refine ⟨_, rfl, ?_⟩
   have H14 := St.frontL (l := [_, _, _, _, _, _, _]) H13
   simp only [Zca, Zna] at H14
   have H16 := St.frontL (l := [_, _, _, _, _, _, _]) (St.front2 H14)
   simp only [Zca, Zna] at H16
   have H17 := St.frontL (l := [_, _, _, _, _, _, _, _, _, _, _, _, _]) H16
   simp only [Zca, Zna] at H17
   have H18 := St.frontL (l := [_, _, _, _, _, _, _, _]) H17
   simp only [Zca, Zna] at H18
   have H19 := St.frontL (l := [_, _, _, _, _, _, _, _]) H18
   simp only [Zca, Zna] at H19
   have H20 := St.frontL (l := [_, _, _, _, _, _, _, _, _, _, _, _, _]) H19
   simp only [Zca, Zna] at H20
   have H21 := St.frontL (l := [_, _, _, _, _, _, _, _, _, _, _, _, _]) H20
   simp only [Zca, Zna] at H21
   have H22 := St.frontL (l := [_, _, _, _, _, _, _, _, _, _, _, _, _]) H21
   simp only [Zca, Zna] at H22
   have H23 := St.frontL (l := [_, _, _, _, _, _, _, _, _, _, _, _, _]) H22
   simp only [Zca, Zna] at H23
   have H24 := St.frontL (l := [_, _, _, _, _, _, _, _, _, _, _, _, _]) H23
   simp only [Zca, Zna] at H24
   have H25 := St.frontL (l := [_, _, _, _, _, _, _, _, _, _, _]) H24
   simp only [Zca, Zna] at H25
   have H26 := St.frontL (l := [_, _, _, _, _, _, _, _, _, _, _, _, _]) H25
   simp only [Zca, Zna] at H26
   have H27 := St.del (.tail (.tail (.tail (.tail (.tail (.tail (.tail (.tail (.tail (.tail (.tail (.tail (.tail .head))))))))))))) H26
   refine ⟨vt, v2_25, v, rfl, St.transS (H27.cast ?_)⟩
   show _ = [_, As.ro _ _ ((X.hs.set i _).map _), _, _, _, _, _, _, As.ri _ _ _ (Z1h (Z0G (s : Int) m.h y.s).1.asks), As.ri _ _ _ (Z2a (Z0G (s : Int) m.h y.s).1.asks), _, As.rk _ 2 _ (Z0Y ((Z0G (s : Int) m.h y.s).1.asks.take (Z0G (s : Int) m.h y.s).1.nx)), _]
   rw [List.map_set, Z28, show (Z0G (s : Int) m.h y.s).1.nx = m.h.nx + 1 from by rw [hres], Z30 hnx]
   rfl
  refine Z0j (s := 30) (v' := .int .i64 (s : Int)) rfl (congrArg (Value.int .i64) (by rw [Z2Q hnx]; exact hws)) ?_
  refine Z0j (s := 34) (v' := .int .i64 (((Z0K (m.h.asks.getD m.h.nx 0)).2.1.toNat : Nat) : Int)) rfl (congrArg (Value.int .i64) (by rw [plcsA_get hnx]; omega)) ?_
  refine Z0I rfl rfl func52 rfl rfl (.cons rfl (.cons rfl (.cons rfl .nil))) (RowT b ({ X with sg := X.sg.set s (ySt s m y v) }) (by simpa using hX41) s ((Z0K (m.h.asks.getD m.h.nx 0)).2.1.toNat) hs (ySt s m y v) (set_at hy) (by rw [hys]; have := hdn hdone; omega) (by rw [hys]; have := hdn hdone; omega) w6.drew (H7.ok mem0) (Own.ik (Z1R _ _) (H7.ok mem4))) ?_
  rintro _ w28 ⟨rfl, hG⟩
  have H28 := hG _ _ _ _ H7
  simp only [Zca, Zna] at H28
  refine Z0j (s := 35) (v' := Z44 (entS (m.h.asks.getD m.h.nx 0)).1) rfl (by rw [Int.toNat_of_nonneg hwb.2.1, hwa.1]) ?_
  refine Z01 ?_
  refine Z0n (⟨H28.ok mem7, H28.ok mem8, H28.ok mem9, H28.ok Z1k, H28.ok mem0, H28.io mem2, H28.io Z1e⟩) ?_
  refine Z2B (L' := [Zy,Zy,Zy,Zy,Zy,Zy,Zy,Zy,Zy,Zy,Zy,Zy,Zy,Zy,Zy,Zy,Zy,Zy,Zy,Zy,Zy,Zy,Zy,Zy,Zz,Zz,Zz,Zz]) (L'' := [Zy,Zy,Zy,Zy,Zy,Zy,Zy,Zy,Zy,Zy,Zy,Zz,Zy,Zy,Zy,Zy,Zy,Zy,Zy,Zy,Zy,Zy,Zy,Zy,Zy,Zz,Zz,Zz]) 11 24 ZK rfl rfl rfl rfl ?_ ?_
  ·refine l_load rfl rfl underlying47 rfl rfl (sl_of hvr2 (H28.io mem5)) (show (X.hs.map (·.vd))[i]? = some m.vd by rw [List.getElem?_map, hm]; rfl) ?_
   refine Z01 ?_
   refine Z0n (⟨H28.ok mem7, H28.ok mem8, H28.ok mem9, H28.ok Z1k, H28.ok mem0, H28.io mem2, H28.io Z1e⟩) ?_
   refine Z0v (L' := [Zy,Zy,Zy,Zy,Zy,Zy,Zy,Zy,Zy,Zy,Zy,Zy,Zy,Zy,Zy,Zy,Zy,Zy,Zy,Zy,Zy,Zy,Zy,Zy,Zy,Zz,Zz,Zz]) 24 ZK rfl rfl ?_
   refine Z2t H28 rfl rfl underlying47 ti85 rfl rfl rfl (fun b2_24 w29 H29 => ?_)
   refine Z01 ?_
   refine Z0n (⟨H29.ok mem8, H29.ok mem9, H29.ok Z1k, H29.ok Z1e, H29.ok mem1, H29.io mem3, H29.io Z34⟩) ?_
   refine Z0v (L' := [Zy,Zy,Zy,Zy,Zy,Zy,Zy,Zy,Zy,Zy,Zy,Zy,Zy,Zy,Zy,Zy,Zy,Zy,Zy,Zy,Zy,Zy,Zy,Zy,Zy,Zy,Zz,Zz]) 25 ZK rfl rfl ?_
   have H30 := St.frontL (l := [_, _, _, _, _, _, _, _, _, _, _, _, _]) H29
   simp only [Zca, Zna] at H30
   refine Z19 (r := wrow (entS (m.h.asks.getD m.h.nx 0)).1) H30 rfl rfl underlying47 ti85 rfl rfl rfl rfl (Z1M (H30.ok mem1)) (by simp [Value.oneCell']) (by simp [Z0Y]; omega) (by simp [Z0Y]; omega) (fun v2_25 w31 H31 => ?_)
   refine Z01 ?_
   refine Z0n (⟨H31.ok mem9, H31.ok Z1k, H31.ok Z1e, H31.ok Z34, H31.ok mem2, H31.io mem4, H31.io Z4G⟩) ?_
   apply Zu (L' := [Zy,Zy,Zy,Zy,Zy,Zy,Zy,Zy,Zy,Zy,Zy,Zy,Zy,Zy,Zy,Zy,Zy,Zy,Zy,Zy,Zy,Zy,Zy,Zy,Zy,Zy,Zy,Zz]) 26 (⟨H31.ok mem9, H31.ok Z1k, H31.ok Z1e, H31.ok Z34, H31.ok mem2, H31.io mem4, H31.io Z4G⟩)
   ·intro wS sS
    refine Z1c (j := i) rfl rfl underlying53 tz47 rfl rfl hvr2 ZP ZI ?_
    refine Z01 ?_
    exact Z04 rfl
   refine Z0v (L' := [Zy,Zy,Zy,Zy,Zy,Zy,Zy,Zy,Zy,Zy,Zy,Zy,Zy,Zy,Zy,Zy,Zy,Zy,Zy,Zy,Zy,Zy,Zy,Zy,Zy,Zy,Zy,Zy]) 27 ZK rfl rfl ?_
   have H32 := St.frontL (l := [_, _, _, _, _, _, _]) H31
   simp only [Zca, Zna] at H32
   refine Z4I (j := i) H32 .head hvr2 rfl tz47 rfl rfl ZO (Z1O (H32.ok mem1)) (fun w33 H33 => ?_)
   refine Z01 ?_
   refine Z0n (⟨H33.ok mem9, H33.ok Z1k, H33.ok Z1e, H33.ok Z34, H33.ok mem3, H33.io mem5, H33.io Z4G⟩) ?_
   refine Z0B ZK ?_
   try dsimp only
   refine Z1o results49 ?_
   refine ⟨_, rfl, ?_⟩
   have H34 := St.frontL (l := [_, _, _, _, _, _, _]) H33
   simp only [Zca, Zna] at H34
   have H36 := St.frontL (l := [_, _, _, _, _, _, _]) (St.front2 H34)
   simp only [Zca, Zna] at H36
   have H37 := St.frontL (l := [_, _, _, _, _, _, _, _, _, _, _, _, _]) H36
   simp only [Zca, Zna] at H37
   have H38 := St.frontL (l := [_, _, _, _, _, _, _, _]) H37
   simp only [Zca, Zna] at H38
   have H39 := St.frontL (l := [_, _, _, _, _, _, _, _]) H38
   simp only [Zca, Zna] at H39
   have H40 := St.frontL (l := [_, _, _, _, _, _, _, _, _, _, _, _, _]) H39
   simp only [Zca, Zna] at H40
   have H41 := St.frontL (l := [_, _, _, _, _, _, _, _, _, _, _, _, _]) H40
   simp only [Zca, Zna] at H41
   have H42 := St.frontL (l := [_, _, _, _, _, _, _, _, _, _, _, _, _]) H41
   simp only [Zca, Zna] at H42
   have H43 := St.frontL (l := [_, _, _, _, _, _, _, _, _, _, _, _, _]) H42
   simp only [Zca, Zna] at H43
   have H44 := St.frontL (l := [_, _, _, _, _, _, _, _, _, _, _, _, _]) H43
   simp only [Zca, Zna] at H44
   have H45 := St.frontL (l := [_, _, _, _, _, _, _, _, _, _, _]) H44
   simp only [Zca, Zna] at H45
   have H46 := St.frontL (l := [_, _, _, _, _, _, _, _, _, _, _, _, _]) H45
   simp only [Zca, Zna] at H46
   have H47 := St.del (.tail (.tail (.tail (.tail (.tail (.tail (.tail (.tail (.tail (.tail (.tail (.tail (.tail .head))))))))))))) H46
   refine ⟨vt, v2_25, v, rfl, St.transS (H47.cast ?_)⟩
   show _ = [_, As.ro _ _ ((X.hs.set i _).map _), _, _, _, _, _, _, As.ri _ _ _ (Z1h (Z0G (s : Int) m.h y.s).1.asks), As.ri _ _ _ (Z2a (Z0G (s : Int) m.h y.s).1.asks), _, As.rk _ 2 _ (Z0Y ((Z0G (s : Int) m.h y.s).1.asks.take (Z0G (s : Int) m.h y.s).1.nx)), _]
   rw [List.map_set, Z28, show (Z0G (s : Int) m.h y.s).1.nx = m.h.nx + 1 from by rw [hres], Z30 hnx]
   rfl
  refine Z2t H28 rfl rfl underlying47 ti85 rfl rfl rfl (fun b2_24 w48 H48 => ?_)
  refine Z01 ?_
  refine Z0n (⟨H48.ok mem8, H48.ok mem9, H48.ok Z1k, H48.ok Z1e, H48.ok mem1, H48.io mem3, H48.io Z34⟩) ?_
  refine Z0v (L' := [Zy,Zy,Zy,Zy,Zy,Zy,Zy,Zy,Zy,Zy,Zy,Zy,Zy,Zy,Zy,Zy,Zy,Zy,Zy,Zy,Zy,Zy,Zy,Zy,Zy,Zz,Zz,Zz]) 11 ZK rfl rfl ?_
  refine l_load rfl rfl underlying47 rfl rfl (sl_of hvr2 (H48.io mem6)) (show (X.hs.map (·.vd))[i]? = some m.vd by rw [List.getElem?_map, hm]; rfl) ?_
  refine Z01 ?_
  refine Z0n (⟨H48.ok mem8, H48.ok mem9, H48.ok Z1k, H48.ok Z1e, H48.ok mem1, H48.io mem3, H48.io Z34⟩) ?_
  refine Z0v (L' := [Zy,Zy,Zy,Zy,Zy,Zy,Zy,Zy,Zy,Zy,Zy,Zy,Zy,Zy,Zy,Zy,Zy,Zy,Zy,Zy,Zy,Zy,Zy,Zy,Zy,Zy,Zz,Zz]) 25 ZK rfl rfl ?_
  have H49 := St.frontL (l := [_, _, _, _, _, _, _, _, _, _, _, _, _]) H48
  simp only [Zca, Zna] at H49
  refine Z19 (r := wrow (entS (m.h.asks.getD m.h.nx 0)).1) H49 rfl rfl underlying47 ti85 rfl rfl rfl rfl (Z1M (H49.ok mem1)) (by simp [Value.oneCell']) (by simp [Z0Y]; omega) (by simp [Z0Y]; omega) (fun v2_25 w50 H50 => ?_)
  refine Z01 ?_
  refine Z0n (⟨H50.ok mem9, H50.ok Z1k, H50.ok Z1e, H50.ok Z34, H50.ok mem2, H50.io mem4, H50.io Z4G⟩) ?_
  apply Zu (L' := [Zy,Zy,Zy,Zy,Zy,Zy,Zy,Zy,Zy,Zy,Zy,Zy,Zy,Zy,Zy,Zy,Zy,Zy,Zy,Zy,Zy,Zy,Zy,Zy,Zy,Zy,Zy,Zz]) 26 (⟨H50.ok mem9, H50.ok Z1k, H50.ok Z1e, H50.ok Z34, H50.ok mem2, H50.io mem4, H50.io Z4G⟩)
  ·intro wS sS
   refine Z1c (j := i) rfl rfl underlying53 tz47 rfl rfl hvr2 ZP ZI ?_
   refine Z01 ?_
   exact Z04 rfl
  refine Z0v (L' := [Zy,Zy,Zy,Zy,Zy,Zy,Zy,Zy,Zy,Zy,Zy,Zy,Zy,Zy,Zy,Zy,Zy,Zy,Zy,Zy,Zy,Zy,Zy,Zy,Zy,Zy,Zy,Zy]) 27 ZK rfl rfl ?_
  have H51 := St.frontL (l := [_, _, _, _, _, _, _]) H50
  simp only [Zca, Zna] at H51
  refine Z4I (j := i) H51 .head hvr2 rfl tz47 rfl rfl ZO (Z1O (H51.ok mem1)) (fun w52 H52 => ?_)
  refine Z01 ?_
  refine Z0n (⟨H52.ok mem9, H52.ok Z1k, H52.ok Z1e, H52.ok Z34, H52.ok mem3, H52.io mem5, H52.io Z4G⟩) ?_
  refine Z0B ZK ?_
  try dsimp only
  refine Z1o results49 ?_
  refine ⟨_, rfl, ?_⟩
  have H53 := St.frontL (l := [_, _, _, _, _, _, _]) H52
  simp only [Zca, Zna] at H53
  have H55 := St.frontL (l := [_, _, _, _, _, _, _]) (St.front2 H53)
  simp only [Zca, Zna] at H55
  have H56 := St.frontL (l := [_, _, _, _, _, _, _, _, _, _, _, _, _]) H55
  simp only [Zca, Zna] at H56
  have H57 := St.frontL (l := [_, _, _, _, _, _, _, _]) H56
  simp only [Zca, Zna] at H57
  have H58 := St.frontL (l := [_, _, _, _, _, _, _, _]) H57
  simp only [Zca, Zna] at H58
  have H59 := St.frontL (l := [_, _, _, _, _, _, _, _, _, _, _, _, _]) H58
  simp only [Zca, Zna] at H59
  have H60 := St.frontL (l := [_, _, _, _, _, _, _, _, _, _, _, _, _]) H59
  simp only [Zca, Zna] at H60
  have H61 := St.frontL (l := [_, _, _, _, _, _, _, _, _, _, _, _, _]) H60
  simp only [Zca, Zna] at H61
  have H62 := St.frontL (l := [_, _, _, _, _, _, _, _, _, _, _, _, _]) H61
  simp only [Zca, Zna] at H62
  have H63 := St.frontL (l := [_, _, _, _, _, _, _, _, _, _, _, _, _]) H62
  simp only [Zca, Zna] at H63
  have H64 := St.frontL (l := [_, _, _, _, _, _, _, _, _, _, _]) H63
  simp only [Zca, Zna] at H64
  have H65 := St.frontL (l := [_, _, _, _, _, _, _, _, _, _, _, _, _]) H64
  simp only [Zca, Zna] at H65
  have H66 := St.del (.tail (.tail (.tail (.tail (.tail (.tail (.tail (.tail (.tail (.tail (.tail (.tail (.tail .head))))))))))))) H65
  refine ⟨vt, v2_25, v, rfl, St.transS (H66.cast ?_)⟩
  show _ = [_, As.ro _ _ ((X.hs.set i _).map _), _, _, _, _, _, _, As.ri _ _ _ (Z1h (Z0G (s : Int) m.h y.s).1.asks), As.ri _ _ _ (Z2a (Z0G (s : Int) m.h y.s).1.asks), _, As.rk _ 2 _ (Z0Y ((Z0G (s : Int) m.h y.s).1.asks.take (Z0G (s : Int) m.h y.s).1.nx)), _]
  rw [List.map_set, Z28, show (Z0G (s : Int) m.h y.s).1.nx = m.h.nx + 1 from by rw [hres], Z30 hnx]
  rfl
 refine Z0a ?_
 try dsimp only
 refine Z1o results49 ?_
 refine ⟨_, rfl, ?_⟩
 have H68 := St.frontL (l := [_, _, _, _, _, _, _, _, _, _, _, _]) (St.front4 H6)
 simp only [Zca, Zna] at H68
 have H70 := St.frontL (l := [_, _, _, _, _, _, _, _, _, _, _, _]) (St.front5 H68)
 simp only [Zca, Zna] at H70
 have H71 := St.frontL (l := [_, _, _, _, _, _]) H70
 simp only [Zca, Zna] at H71
 have H72 := St.frontL (l := [_, _, _, _, _, _]) H71
 simp only [Zca, Zna] at H72
 have H73 := St.frontL (l := [_, _, _, _, _, _, _, _, _, _, _, _]) H72
 simp only [Zca, Zna] at H73
 have H74 := St.frontL (l := [_, _, _, _, _, _, _, _, _, _, _, _]) H73
 simp only [Zca, Zna] at H74
 have H75 := St.frontL (l := [_, _, _, _, _, _, _, _, _, _, _, _]) H74
 simp only [Zca, Zna] at H75
 have H76 := St.frontL (l := [_, _, _, _, _, _, _, _, _, _, _, _]) H75
 simp only [Zca, Zna] at H76
 have H77 := St.frontL (l := [_, _, _, _, _, _, _, _, _, _, _, _]) H76
 simp only [Zca, Zna] at H77
 have H78 := St.frontL (l := [_, _, _, _, _, _, _, _, _, _, _, _]) H77
 simp only [Zca, Zna] at H78
 have H79 := St.frontL (l := [_, _, _, _, _, _, _, _, _, _, _, _]) H78
 simp only [Zca, Zna] at H79
 refine ⟨vt, m.vd, v, rfl, St.transS (H79.cast ?_)⟩
 show _ = [_, As.ro _ _ ((X.hs.set i _).map _), _, _, _, _, _, _, As.ri _ _ _ (Z1h (Z0G (s : Int) m.h y.s).1.asks), As.ri _ _ _ (Z2a (Z0G (s : Int) m.h y.s).1.asks), _, As.rk _ 2 _ (Z0Y ((Z0G (s : Int) m.h y.s).1.asks.take (Z0G (s : Int) m.h y.s).1.nx)), _]
 rw [List.map_set, Z28, stepH_nx hkl (by rw [hc0]; exact Bool.false_ne_true), Z36 (show (X.hs.map (·.vd))[i]? = some m.vd by rw [List.getElem?_map, hm]; rfl)]
 rfl
def Z0x (h : Hd) : Nat := (Z1d h).toNat
def sgN (G : GW) (s : Nat) : Sg := G.sg.getD s ⟨0, 0, false⟩
def mayG (G : GW) (i : Nat) : Bool := match G.hs[i]? with
 | some h => mayH h (sgN G (Z0x h))
 | none => false
def Z1S (G : GW) (i : Nat) : GW := match G.hs[i]? with
 | some h => ⟨G.hs.set i (Z0G (Z1d h) h (sgN G (Z0x h))).1, G.sg.set (Z0x h) (Z0G (Z1d h) h (sgN G (Z0x h))).2, (i + 1) % G.hs.length⟩
 | none => G
structure HdOk (G : GW) (h : Hd) : Prop where
 q : ∀ q ∈ h.asks, -342 ≤ q ∧ q ≤ 308
 al : h.asks.length ≤ 64
 line : h.line = 1 ∨ h.line = 2 ∨ h.line = 3 ∨ h.line = 4
 nx : h.line ≠ 4 → h.nx < h.asks.length
 en : h.line = 4 → h.nx = h.asks.length
 b2 : h.line = 2 → h.tk = Z1d h ∧ (sgN G (Z0x h)).built = 1 ∧ (sgN G (Z0x h)).done = false ∧ (sgN G (Z0x h)).laid < Z15 (Z1d h)
 b3 : h.line = 3 → (sgN G (Z0x h)).built = 1 ∧ (sgN G (Z0x h)).done = false ∧ (sgN G (Z0x h)).laid = Z15 (Z1d h)
 dn : ∀ k, k < h.nx → (sgN G (Z0K (h.asks.getD k 0)).1.toNat).done = true
def SgOk (s : Nat) (y : Sg) : Prop := (y.built = 0 ∧ y.laid = 0 ∧ y.done = false) ∨ (y.built = 1 ∧ y.done = false ∧ y.laid ≤ Z15 (s : Int)) ∨ (y.built = 1 ∧ y.done = true ∧ y.laid = Z15 (s : Int))
structure Wf (G : GW) : Prop where
 n16 : G.hs.length ≤ 16
 sg : G.sg.length = 41
 fr : G.fr ≤ 16
 hd : ∀ (i : Nat) (h : Hd), G.hs[i]? = some h → HdOk G h
 sok : ∀ (s : Nat) (y : Sg), G.sg[s]? = some y → SgOk s y
 un : ∀ (i j : Nat) (h k : Hd), i ≠ j → G.hs[i]? = some h → G.hs[j]? = some k → (h.line = 2 ∨ h.line = 3) → (k.line = 2 ∨ k.line = 3) → Z1d h ≠ Z1d k
theorem Z1G (h : Hd) : Z1d h = (Z0x h : Int) ∧ Z0x h < 41 := by
 have := Z2Y (h.asks.getD h.nx 0)
 unfold Z0x Z1d
 omega
theorem sgN_at {G : GW} {s : Nat} {y : Sg} (h : G.sg[s]? = some y) : sgN G s = y := by simp [sgN, List.getD, h]
theorem Wf.at {G : GW} (hw : Wf G) {s : Nat} (hs : s < 41) : G.sg[s]? = some (sgN G s) := by
 have := hw.sg
 simp [sgN, List.getD, show s < G.sg.length by omega]
theorem Wf.wk {G : GW} (hw : Wf G) {i : Nat} {h : Hd} (hi : G.hs[i]? = some h) (hm : mayG G i = true) : WkOk (Z0x h) h (sgN G (Z0x h)) := by
 have ho := hw.hd i h hi
 have hb := Z1G h
 have hs := hw.sok _ _ (hw.at hb.2)
 unfold mayG at hm
 rw [hi] at hm
 dsimp only at hm
 unfold mayH at hm
 have hl : h.line = 1 ∨ h.line = 2 ∨ h.line = 3 := by
  split at hm
  ·exact .inl ZA
  exact .inr (by simpa using hm)
 refine ⟨hl, ho.nx ZO, hb.1, fun h2 => ?_, ?_, ho.al, fun h1 => ?_⟩
 ·obtain ⟨e1, e2, e3, e4⟩ := ho.b2 h2
  exact ⟨by rw [e1]; exact hb.1, by rw [← hb.1]; exact e4⟩
 ·rcases hs with h1 | h1 | h1 <;> omega
 rw [if_pos h1] at hm
 simpa using hm
theorem SgOk.dn {s : Nat} {y : Sg} (h : SgOk s y) (hd : y.done = true) : y.laid = Z15 (s : Int) := by
 rcases h with h | h | h
 ·rw [h.2.2] at hd; cases hd
 ·rw [h.2.1] at hd; cases hd
 exact h.2.2
theorem SgOk.le {s : Nat} {y : Sg} (h : SgOk s y) : y.laid ≤ Z15 (s : Int) := by
 rcases h with h | h | h <;> omega
/-! ### the facts that those who only read rely on -/
structure GF (b : Nat) (X : Gm) (w : World) : Prop where
 hb : (As.blk b 63 (gC X)).ok w
 hh : IK w 3 X.vh (X.hs.map Z0V)
 hr : IV w X.vr (X.hs.map (·.vd))
 hs : ∀ A ∈ Z1t b X, A.ok w ∧ ∀ k, A.fp k → k < w.heap.size
theorem Z0L (L : List Hm) : Z1g 3 (L.map Z0V) := fun r hr => by
 obtain ⟨m, _, rfl⟩ := List.mem_map.1 hr
 exact ⟨rfl, by simp [Z0V, Value.oneCell']⟩
theorem GF.of {w0 w : World} {B : Nat} {M : Nat → Prop} {σ : List As} {b : Nat} {X : Gm} (hw : St w0 B M (gW b X ++ σ) w) : GF b X w :=
 ⟨hw.ok (.head _), Own.ik (Z0L _) (hw.ok (.tail _ (.head _))), Own.iv (hw.ok (.tail _ (.tail _ (.head _)))), fun A hA =>
  ⟨(hw.ok (show As.sep (Z1t b X) ∈ gW b X ++ σ from .tail _ (.tail _ (.tail _ (.head _))))).1 A hA, fun k hk => (hw.sep.lt (show As.sep (Z1t b X) ∈ gW b X ++ σ from .tail _ (.tail _ (.tail _ (.head _)))) k ⟨A, hA, hk⟩).2⟩⟩
theorem GF.arg {w0 w : World} {σ : List As} {b : Nat} {X : Gm} (h : GF b X w0) (hw : St w0 w0.heap.size Z0J σ w) : GF b X w :=
 ⟨Z0S hw h.hb, hw.ikarg h.hh, hw.iarg h.hr, fun A hA => ⟨A.loc w0 w (fun k hk => hw.ext.block k ((h.hs A hA).2 k hk) (fun e => e)) (h.hs A hA).1, fun k hk => Nat.lt_of_lt_of_le ((h.hs A hA).2 k hk) hw.ext.size⟩⟩
theorem Z3R {b i : Nat} {X : Gm} {m : Hm} (hm : X.hs[i]? = some m) {A : As} (hA : A ∈ hrow b i m) : A ∈ Z1t b X := by
 refine List.mem_append_left _ (List.mem_flatten.2 ⟨hrow b i m, ?_, hA⟩)
 obtain ⟨h1, rfl⟩ := List.getElem?_eq_some_iff.1 hm
 exact List.mem_iff_getElem.2 ⟨i, by simpa using h1, by simp⟩
theorem srow_mem {b s : Nat} {X : Gm} {y : Sm} (hy : X.sg[s]? = some y) : srow s y ∈ Z1t b X := by
 refine List.mem_append_right _ ?_
 obtain ⟨h1, rfl⟩ := List.getElem?_eq_some_iff.1 hy
 exact List.mem_iff_getElem.2 ⟨s, by simpa using h1, by simp⟩
theorem GF.bw {b i : Nat} {X : Gm} {m : Hm} {w : World} (h : GF b X w) (hm : X.hs[i]? = some m) : (As.blk m.bw 94 [ptr m.wb]).ok w := (h.hs _ (Z3R hm (.head _))).1
theorem GF.wb {b i : Nat} {X : Gm} {m : Hm} {w : World} (h : GF b X w) (hm : X.hs[i]? = some m) : (As.blk m.wb 109 (wkC b m)).ok w := (h.hs _ (Z3R (i := i) hm (.tail _ (.tail _ (.tail _ (.tail _ (.tail _ (.head _)))))))).1
theorem GF.vn {b i : Nat} {X : Gm} {m : Hm} {w : World} (h : GF b X w) (hm : X.hs[i]? = some m) : IV w m.vn (ints .i64 (Z1h m.h.asks)) := Own.iv (h.hs _ (Z3R (i := i) hm (.tail _ (.tail _ (.tail _ (.tail _ (.tail _ (.tail _ (.head _))))))))).1
theorem GF.vd {b i : Nat} {X : Gm} {m : Hm} {w : World} (h : GF b X w) (hm : X.hs[i]? = some m) : IK w 2 m.vd (Z0Y (m.h.asks.take m.h.nx)) := Own.ik (Z2v _) (h.hs _ (Z3R (i := i) hm mem9)).1
theorem GF.vs {b s : Nat} {X : Gm} {y : Sm} {w : World} (h : GF b X w) (hy : X.sg[s]? = some y) : IK w 2 y.v ((segR (s : Int)).take y.s.laid) ∧ y.v.oneCell' = true := ⟨Own.ik (Z1R _ _) (h.hs _ (srow_mem hy)).1, Z1O (h.hs _ (srow_mem hy)).1⟩
theorem Z37 {X : Gm} {i : Nat} {m : Hm} (hm : X.hs[i]? = some m) : X.abs.hs[i]? = some m.h := by
 show (X.hs.map (·.h))[i]? = _
 rw [List.getElem?_map, hm]; rfl
theorem abs_sg {X : Gm} {s : Nat} {y : Sm} (hy : X.sg[s]? = some y) : sgN X.abs s = y.s := by
 refine sgN_at ?_
 show (X.sg.map (·.s))[s]? = _
 rw [List.getElem?_map, hy]; rfl
theorem Wf.sgX {X : Gm} (hw : Wf X.abs) : X.sg.length = 41 := by
 have := hw.sg
 simpa [Gm.abs] using this
theorem Wf.smX {X : Gm} (hw : Wf X.abs) (s : Nat) (hs : s < 41) : ∃ y, X.sg[s]? = some y := ⟨_, List.getElem?_eq_getElem (by rw [hw.sgX]; exact hs)⟩
theorem mayCG (b i : Nat) (X : Gm) (hwf : Wf X.abs) (m : Hm) (hm : X.hs[i]? = some m) (c : Int) (w : World) (hG : GF b X w) :
  Z0f P 47 [.int .i64 c, ptr m.bw] w fun r w' => r = .bool (decide (c = 0 ∧ mayG X.abs i = true)) ∧ Grow w w' [] := by
 have hb := Z1G m.h
 obtain ⟨y, hy⟩ := hwf.smX (Z0x m.h) hb.2
 have e : mayG X.abs i = mayH m.h y.s := by
  unfold mayG
  rw [Z37 hm]
  dsimp only
  rw [abs_sg hy]
 rw [e]
 exact mayC b X m (Z0x m.h) hb.2 y hy c (hG.vs hy).2 (fun h1 => ⟨(hwf.hd i m.h (Z37 hm)).nx ZO, hb.1⟩) w hG.hb (hG.bw hm) (hG.wb hm) (hG.vn hm)
theorem atCG (b i : Nat) (X : Gm) (hwf : Wf X.abs) (m : Hm) (hm : X.hs[i]? = some m) (w : World) (hG : GF b X w) :
  Z0f P 53 [ptr m.bw] w fun r w' => r = .agg #[.int .i64 m.h.line, .int .i64 (m.h.nx : Int), .int .i64 (if m.h.line = 2 ∨ m.h.line = 3 then Z1d m.h else -1)] ∧ Grow w w' [] :=
 atC b m (fun h1 => (hwf.hd i m.h (Z37 hm)).nx (by omega)) w (hG.bw hm) (hG.wb hm) (hG.vn hm)
theorem gw_perm {R σ : List As} {S a v r : As} : (R ++ (S :: a :: v :: r :: σ)).Perm (a :: r :: (R ++ (v :: S :: σ))) := by
 have h4 : (S :: a :: v :: r :: σ).Perm (a :: r :: v :: S :: σ) :=
  (List.Perm.swap a S (v :: r :: σ)).trans (.cons a (((List.Perm.swap v S (r :: σ))).trans ((List.Perm.cons v (List.Perm.swap r S σ)).trans (List.Perm.swap r v (S :: σ)))))
 refine (h4.append_left R).trans ((List.perm_middle (l₁ := R) (a := a) (l₂ := r :: v :: S :: σ)).trans (.cons a (List.perm_middle (l₁ := R) (a := r) (l₂ := v :: S :: σ))))
theorem gw_open {w0 w : World} {B : Nat} {M : Nat → Prop} {σ O : List As} {b i s : Nat} {X : Gm} {m : Hm} {y : Sm} (hp : (Z1t b X).Perm (hrow b i m ++ srow s y :: O)) (h : St w0 B M (gW b X ++ σ) w) :
  St w0 B M (dW b X i m s y ++ (As.rk 71 3 X.vh (X.hs.map Z0V) :: As.sep O :: σ)) w := by
 have h1 := St.frontL (l := [_, _, _]) h
 have h2 := Z2z (l := hrow b i m ++ [srow s y]) (hp.trans (by rw [List.append_assoc]; exact .refl _)) h1
 exact St.perm gw_perm h2
theorem gw_close {w0 w : World} {B : Nat} {M : Nat → Prop} {σ O : List As} {b i s : Nat} {X : Gm} {m : Hm} {y : Sm} (hp : (hrow b i m ++ srow s y :: O).Perm (Z1t b X))
  (h : St w0 B M (dW b X i m s y ++ (As.rk 71 3 X.vh (X.hs.map Z0V) :: As.sep O :: σ)) w) : St w0 B M (gW b X ++ σ) w := by
 have h1 := St.perm (gw_perm (R := hrow b i m ++ [srow s y])).symm h
 have h2 := Z29 (l := hrow b i m ++ [srow s y]) ((show _ from (by rw [List.append_assoc]; exact .refl _ : ((hrow b i m ++ [srow s y]) ++ O).Perm (hrow b i m ++ srow s y :: O))).trans hp) h1
 exact St.perm (List.perm_middle (l₁ := [_, _, _]) (a := As.sep (Z1t b X)) (l₂ := σ)).symm h2
theorem doG (b i : Nat) (X : Gm) (hwf : Wf X.abs) (m : Hm) (hm : X.hs[i]? = some m) (hmay : mayG X.abs i = true) (c : Int) (w : World) (hS : Sep w.heap.size (fps (gW b X)) w (gW b X)) :
  Z0f P 49 [.int .i64 c, ptr m.bw, ptr m.bg, ptr m.bi, ptr m.bs, ptr m.bp] w fun r w' => ∃ Y : Gm, r = .tuple #[] ∧ ((Z1S X.abs i).hs = Y.abs.hs ∧ (Z1S X.abs i).sg = Y.abs.sg ∧ Y.vh = X.vh ∧ Y.hs.map Z0V = X.hs.map Z0V) ∧ Z1C w w' (gW b X) (gW b Y) := by
 have hb := Z1G m.h
 obtain ⟨y, hy⟩ := hwf.smX (Z0x m.h) hb.2
 have hs := abs_sg hy
 have hwk := hwf.wk (Z37 hm) hmay
 rw [hs] at hwk
 have hsk := hwf.sok _ _ (hwf.at hb.2)
 rw [hs] at hsk
 obtain ⟨O, hp, hq⟩ := rest_split (b := b) hm hy
 have h0 := gw_open (σ := []) hp (by simpa using St.startS hS)
 refine Calls.mono (doC2 b i X m (Z0x m.h) hb.2 y hy hm hwf.sgX c hwk (hwf.hd i m.h (Z37 hm)).q hsk.dn w (St.rows (τ := dW b X i m (Z0x m.h) y) h0)) fun e w' he => ?_
 obtain ⟨r, rfl, vt, vd, v, rfl, hT⟩ := he
 refine ⟨_, rfl, XDo X i (mDo (Z0x m.h) m y vt vd) (Z0x m.h) (ySt (Z0x m.h) m y v), rfl, ?_, fun w0 B M σ h => ?_⟩
 ·have he : Z1S X.abs i = ⟨X.abs.hs.set i (Z0G (Z1d m.h) m.h y.s).1, X.abs.sg.set (Z0x m.h) (Z0G (Z1d m.h) m.h y.s).2, (i + 1) % X.abs.hs.length⟩ := by
   unfold Z1S
   rw [Z37 hm]
   dsimp only
   rw [hs]
  rw [he]
  refine ⟨?_, ?_, rfl, ?_⟩
  ·show (X.hs.map (·.h)).set i _ = (X.hs.set i _).map (·.h)
   rw [List.map_set, hb.1]
  ·show (X.sg.map (·.s)).set _ _ = (X.sg.set _ _).map (·.s)
   rw [List.map_set, hb.1]
  show (X.hs.set i _).map Z0V = _
  rw [List.map_set]
  exact Z36 (by rw [List.getElem?_map, hm]; rfl)
 have h1 := gw_open hp h
 have h2 := hT _ _ _ _ h1
 refine gw_close (hq (mDo (Z0x m.h) m y vt vd) (ySt (Z0x m.h) m y v) _ rfl rfl) ?_
 rw [show (XDo X i (mDo (Z0x m.h) m y vt vd) (Z0x m.h) (ySt (Z0x m.h) m y v)).hs.map Z0V = X.hs.map Z0V from by
  show (X.hs.set i _).map Z0V = _
  rw [List.map_set]
  exact Z36 (by rw [List.getElem?_map, hm]; rfl)]
 exact h2
def fieldTy (P : Program) (s f : Nat) : Option (Nat × Bool) := match P.underlying s with
 | some (.struct fs) => (fs[f]?).bind fun fl => (P.underlying fl.type).map fun u => (fl.offset, Z1V u)
 | _ => none
theorem l_fieldv {P : Program} {N : Nat} {Q : Z26} {ρ : Env} {w : World} {ops : Array Oper} {rest : List Oper} {d : Nat} {ty : TypeId} {pos : String} {af : Array Edge} {g : Option (Nat × Bool)} {x : Operand} {s f o : Nat} {vs : Array Value} {v : Value} (hF : fieldTy P s f = some (o, true))
  (hg : Z0t ops ρ g = true) (hN : Nat.blt d N = true) (hx : Z0g ρ x = some (.agg vs)) (hv : vs[o]? = some v) (n : RunL P N ops Q rest ((d, v) :: ρ) w) : RunL P N ops Q (⟨some d, .field s x f, ty, pos, af, g⟩ :: rest) ρ w :=
 Z1n hg rfl hN (fun a ha => by
  unfold fieldTy at hF
  split at hF
  ·rename_i fs hs
   cases hf : fs[f]? with
   | none => simp [hf] at hF
   | some fl =>
    cases hq : P.underlying fl.type with
    | none => simp [hf, hq] at hF
    | some u =>
     simp only [hf, hq, Option.bind_some, Option.map_some, Option.some.injEq, Prod.mk.injEq] at hF
     obtain ⟨rfl, hp⟩ := hF
     have hag : (isAgg fl.type).run P w = .ok false w := by
      simp only [isAgg, Sem.run_bind, run_underlying hq, Result.andThen_ok]
      cases u <;> first | rfl | (simp [Z1V] at hp; done) | simp
     simp only [execOp, ha.eval hx, Instr.field, Sem.run_bind, run_underlying hs, Result.andThen_ok]
     simp [hf, asAgg, part, hag, hv]
  cases hF) n
theorem gC_setFr (X : Gm) (v : Nat) {cs : List Value} (hc : cs = gC X) : Z1F cs 1 (.int .i64 (v : Int)) (gC { X with fr := v }) := hc ▸ .succ .zero
theorem stepG_eq {G : GW} {i : Nat} (hi : i < G.hs.length) : (Z1S G i).fr = (i + 1) % G.hs.length ∧ (Z1S G i).hs.length = G.hs.length := by
 unfold Z1S
 rw [List.getElem?_eq_getElem hi]
 dsimp only
 exact ⟨rfl, by simp⟩
def Z1L (G : GW) : Option Nat := ((List.range G.hs.length).map fun i => (G.fr + i) % G.hs.length).find? (mayG G)
theorem next_some {G : GW} {i : Nat} (hi : i < G.hs.length) (h : mayG G ((G.fr + i) % G.hs.length) = true) (hno : ∀ j, j < i → mayG G ((G.fr + j) % G.hs.length) = false) : Z1L G = some ((G.fr + i) % G.hs.length) := by
 unfold Z1L
 have hf : (List.range G.hs.length).find? (mayG G ∘ fun i => (G.fr + i) % G.hs.length) = some i := List.find?_range_eq_some.2 ⟨h, List.mem_range.2 hi, fun j hj => by simp [Function.comp, hno j hj]⟩
 rw [List.find?_map, hf]
 rfl
theorem next_none {G : GW} (hno : ∀ j, j < G.hs.length → mayG G ((G.fr + j) % G.hs.length) = false) : Z1L G = none := by
 unfold Z1L
 have hf : (List.range G.hs.length).find? (mayG G ∘ fun i => (G.fr + i) % G.hs.length) = none := List.find?_eq_none.2 fun j hj => by simp [Function.comp, hno j (List.mem_range.1 hj)]
 rw [List.find?_map, hf]
 rfl
abbrev moveV (o : Option Nat) : Value := .agg #[.int .i64 ((o.getD 0 : Nat) : Int), .int .i64 0]
def Z3c (G : GW) (i : Int) : Int × Int × Int := if 0 ≤ i then (match G.hs[i.toNat]? with
 | some h => (h.line, (h.nx : Int), if h.line = 2 ∨ h.line = 3 then Z1d h else -1)
 | none => (0, 0, 0)) else (0, 0, 0)
abbrev handVal (t : Int × Int × Int) : Value := .agg #[.int .i64 t.1, .int .i64 t.2.1, .int .i64 t.2.2]
def overG (G : GW) : Bool := G.hs.all fun h => decide (h.line = 4)
theorem moveD (b : Nat) (X : Gm) (hwf : Wf X.abs) (i : Nat) (hi : i < X.hs.length) (hmay : mayG X.abs i = true) (c : Int) (w : World) (hS : Sep w.heap.size (fps (gW b X)) w (gW b X)) :
  Z0f P 58 [ptr b, .agg #[.int .i64 (i : Int), .int .i64 c]] w fun r w' => ∃ Y : Gm, r = .tuple #[] ∧ Y.abs = Z1S X.abs i ∧ Z1C w w' (gW b X) (gW b Y) := by
 refine Z0o func58 rfl ntmps58 rfl ?_
 have H0 : St w w.heap.size (fps (gW b X)) (gW b X) w := St.startS hS
 have hn16 : X.hs.length ≤ 16 := by simpa [Gm.abs] using hwf.n16
 have hfr16 : X.fr ≤ 16 := hwf.fr
 obtain ⟨m, hm⟩ : ∃ m, X.hs[i]? = some m := ⟨_, List.getElem?_eq_getElem hi⟩
 refine Z03 (Z00 ?_)
 refine l_box H0 rfl rfl rfl (fun b0_0 w1 H1 => ?_)
 refine Z01 (Z02 ?_)
 refine Zk [0, 3] ?_
 refine Z03 ?_
 have H2 := H1.drewn
 have hrow : (X.hs.map Z0V)[i]? = some (Z0V m) := by rw [List.getElem?_map, hm]; rfl
 have hil := (List.getElem?_eq_some_iff.1 hm).1
 have hmal : (X.hs.map Z0V).length = X.hs.length := List.length_map _
 obtain ⟨Ah, ch, hvh⟩ : ∃ A c, X.vh = .slice (some A) (X.hs.map Z0V).length c := by
  obtain ⟨_, A, c, e, _, hs⟩ := Own.ik (Z0L _) (H2.ok mem2)
  obtain ⟨ad, rfl⟩ := hs.some_ (by rw [(Z0L _).len]; omega)
  exact ⟨ad, c, e⟩
 refine Z1a (n := 12) [Zz,Zz,Zz,Zz,Zz,Zz,Zz,Zz,Zz,Zz,Zz,Zz] (fun wS => (∃ cs, (As.blk b 63 cs).ok wS ∧ cs[0]? = some X.vh) ∧ IK wS 3 X.vh (X.hs.map Z0V) ∧ (As.blk b0_0 87 [.int .i64 (i : Int), .int .i64 c]).ok wS) ZK rfl rfl ?_
 apply Zu (L' := [Zy,Zz,Zz,Zz,Zz,Zz,Zz,Zz,Zz,Zz,Zz,Zz]) 0 (⟨⟨_, H2.ok mem1, by first | rfl | exact congrArg some hYv⟩, Own.ik (Z0L _) (H2.ok mem2), H2.ok mem0⟩)
 ·intro wS sS
  refine Zm (Z01 ?_)
  exact Z04 rfl
 refine Z0N (L' := [Zy,Zy,Zz,Zz,Zz,Zz,Zz,Zz,Zz,Zz,Zz,Zz]) 1 rfl ZK ZK ZK rfl rfl rfl (⟨⟨_, H2.ok mem1, by first | rfl | exact congrArg some hYv⟩, Own.ik (Z0L _) (H2.ok mem2), H2.ok mem0⟩) rfl ?_
 apply Zu (L' := [Zy,Zy,Zy,Zz,Zz,Zz,Zz,Zz,Zz,Zz,Zz,Zz]) 2 (⟨⟨_, H2.ok mem1, by first | rfl | exact congrArg some hYv⟩, Own.ik (Z0L _) (H2.ok mem2), H2.ok mem0⟩)
 ·intro wS sS
  refine Z09 Z2I rfl rfl rfl (Z01 ?_)
  exact Z04 rfl
 apply Zu (L' := [Zy,Zy,Zy,Zy,Zz,Zz,Zz,Zz,Zz,Zz,Zz,Zz]) 3 (⟨⟨_, H2.ok mem1, by first | rfl | exact congrArg some hYv⟩, Own.ik (Z0L _) (H2.ok mem2), H2.ok mem0⟩)
 ·intro wS sS
  obtain ⟨cs, hcs, hc0⟩ := sS.1
  refine Z05 (Z0r hcs) mem0 rfl rfl underlying54 rfl rfl hc0 ?_
  refine Z01 ?_
  exact Z04 rfl
 apply Zu (L' := [Zy,Zy,Zy,Zy,Zy,Zz,Zz,Zz,Zz,Zz,Zz,Zz]) 4 (⟨⟨_, H2.ok mem1, by first | rfl | exact congrArg some hYv⟩, Own.ik (Z0L _) (H2.ok mem2), H2.ok mem0⟩)
 ·intro wS sS
  refine Z09 fo87_0 rfl rfl rfl (Z01 ?_)
  exact Z04 rfl
 apply Zu (L' := [Zy,Zy,Zy,Zy,Zy,Zy,Zz,Zz,Zz,Zz,Zz,Zz]) 5 (⟨⟨_, H2.ok mem1, by first | rfl | exact congrArg some hYv⟩, Own.ik (Z0L _) (H2.ok mem2), H2.ok mem0⟩)
 ·intro wS sS
  refine Z05 (Z0r sS.2.2) mem0 rfl rfl underlying3 rfl rfl rfl ?_
  refine Z01 ?_
  exact Z04 rfl
 apply Zu (L' := [Zy,Zy,Zy,Zy,Zy,Zy,Zy,Zz,Zz,Zz,Zz,Zz]) 6 (⟨⟨_, H2.ok mem1, by first | rfl | exact congrArg some hYv⟩, Own.ik (Z0L _) (H2.ok mem2), H2.ok mem0⟩)
 ·intro wS sS
  refine Z1s (j := i) rfl rfl underlying54 tz71 (by decide) rfl rfl sS.2.1 hvh rfl ZO ?_
  refine Z01 ?_
  exact Z04 rfl
 apply Zu (L' := [Zy,Zy,Zy,Zy,Zy,Zy,Zy,Zy,Zz,Zz,Zz,Zz]) 7 (⟨⟨_, H2.ok mem1, by first | rfl | exact congrArg some hYv⟩, Own.ik (Z0L _) (H2.ok mem2), H2.ok mem0⟩)
 ·intro wS sS
  refine Z0D fo71_1 rfl rfl rfl ?_
  refine Z01 ?_
  exact Z04 rfl
 apply Zu (L' := [Zy,Zy,Zy,Zy,Zy,Zy,Zy,Zy,Zy,Zz,Zz,Zz]) 8 (⟨⟨_, H2.ok mem1, by first | rfl | exact congrArg some hYv⟩, Own.ik (Z0L _) (H2.ok mem2), H2.ok mem0⟩)
 ·intro wS sS
  refine Z0R (j := i) (o := 1) (r := Z0V m) rfl rfl underlying68 rfl rfl hvh sS.2.1 hrow rfl ?_
  refine Z01 ?_
  exact Z04 rfl
 apply Zu (L' := [Zy,Zy,Zy,Zy,Zy,Zy,Zy,Zy,Zy,Zy,Zz,Zz]) 9 (⟨⟨_, H2.ok mem1, by first | rfl | exact congrArg some hYv⟩, Own.ik (Z0L _) (H2.ok mem2), H2.ok mem0⟩)
 ·intro wS sS
  refine Z09 fo87_1 rfl rfl rfl (Z01 ?_)
  exact Z04 rfl
 apply Zu (L' := [Zy,Zy,Zy,Zy,Zy,Zy,Zy,Zy,Zy,Zy,Zy,Zz]) 10 (⟨⟨_, H2.ok mem1, by first | rfl | exact congrArg some hYv⟩, Own.ik (Z0L _) (H2.ok mem2), H2.ok mem0⟩)
 ·intro wS sS
  refine Z05 (Z0r sS.2.2) mem0 rfl rfl underlying3 rfl rfl rfl ?_
  refine Z01 ?_
  exact Z04 rfl
 refine Z0v (L' := [Zy,Zy,Zy,Zy,Zy,Zy,Zy,Zy,Zy,Zy,Zy,Zy]) 11 ZK rfl rfl ?_
 have H3 := St.frontL (l := [_, _, _, _]) H2
 simp only [Zca, Zna] at H3
 have H4 := St.frontL (l := [_, _, _, _]) H3
 simp only [Zca, Zna] at H4
 have H5 := St.frontL (l := [_, _, _, _]) H4
 simp only [Zca, Zna] at H5
 have H6 := St.frontL (l := [_, _, _, _]) H5
 simp only [Zca, Zna] at H6
 refine Z3g rfl rfl rfl func49 rfl rfl (.cons rfl .nil) (doG b i X hwf m hm hmay c w1.drew (St.rows (τ := gW b X) H6)) ?_
 rintro _ w7 ⟨Y, rfl, ⟨hY1, hY2, hYv, hYh⟩, hX2⟩
 have H7 := hX2 _ _ _ _ H6
 simp only [gW, List.cons_append, List.nil_append] at H7
 rw [hYh, hYv] at H7
 refine Z01 ?_
 refine Z0n (⟨⟨_, H7.ok mem0, by first | rfl | exact congrArg some hYv⟩, Own.ik (Z0L _) (H7.ok mem1), H7.ok mem4⟩) ?_
 refine Z0B ZK ?_
 refine Z02 ?_
 refine Zk [0, 3] ?_
 have H8 := H7.drewn
 refine Z1a (n := 13) [Zz,Zz,Zz,Zz,Zz,Zz,Zz,Zz,Zz,Zz,Zz,Zz,Zz] (fun wS => (∃ cs, (As.blk b 63 cs).ok wS ∧ cs[0]? = some X.vh) ∧ (As.blk b0_0 87 [.int .i64 (i : Int), .int .i64 c]).ok wS) ZK rfl rfl ?_
 apply Zu (L' := [Zy,Zz,Zz,Zz,Zz,Zz,Zz,Zz,Zz,Zz,Zz,Zz,Zz]) 0 (⟨⟨_, H8.ok mem0, by first | rfl | exact congrArg some hYv⟩, H8.ok mem4⟩)
 ·intro wS sS
  refine Zm (Z01 ?_)
  exact Z04 rfl
 apply Zu (L' := [Zy,Zy,Zz,Zz,Zz,Zz,Zz,Zz,Zz,Zz,Zz,Zz,Zz]) 1 (⟨⟨_, H8.ok mem0, by first | rfl | exact congrArg some hYv⟩, H8.ok mem4⟩)
 ·intro wS sS
  refine Z09 fo87_0 rfl rfl rfl (Z01 ?_)
  exact Z04 rfl
 apply Zu (L' := [Zy,Zy,Zy,Zz,Zz,Zz,Zz,Zz,Zz,Zz,Zz,Zz,Zz]) 2 (⟨⟨_, H8.ok mem0, by first | rfl | exact congrArg some hYv⟩, H8.ok mem4⟩)
 ·intro wS sS
  refine Z05 (Z0r sS.2) mem0 rfl rfl underlying3 rfl rfl rfl ?_
  refine Z01 ?_
  exact Z04 rfl
 apply Zu (L' := [Zy,Zy,Zy,Zy,Zz,Zz,Zz,Zz,Zz,Zz,Zz,Zz,Zz]) 3 (⟨⟨_, H8.ok mem0, by first | rfl | exact congrArg some hYv⟩, H8.ok mem4⟩)
 ·intro wS sS
  refine Z0y rfl rfl rfl rfl (Z0l ZO) ?_
  refine Z01 ?_
  exact Z04 rfl
 apply Zu (L' := [Zy,Zy,Zy,Zy,Zy,Zz,Zz,Zz,Zz,Zz,Zz,Zz,Zz]) 4 (⟨⟨_, H8.ok mem0, by first | rfl | exact congrArg some hYv⟩, H8.ok mem4⟩)
 ·intro wS sS
  refine Zm (Z01 ?_)
  exact Z04 rfl
 refine Z0N (L' := [Zy,Zy,Zy,Zy,Zy,Zy,Zz,Zz,Zz,Zz,Zz,Zz,Zz]) 5 rfl ZK ZK ZK rfl rfl rfl (⟨⟨_, H8.ok mem0, by first | rfl | exact congrArg some hYv⟩, H8.ok mem4⟩) rfl ?_
 apply Zu (L' := [Zy,Zy,Zy,Zy,Zy,Zy,Zy,Zz,Zz,Zz,Zz,Zz,Zz]) 6 (⟨⟨_, H8.ok mem0, by first | rfl | exact congrArg some hYv⟩, H8.ok mem4⟩)
 ·intro wS sS
  refine Z09 Z2I rfl rfl rfl (Z01 ?_)
  exact Z04 rfl
 apply Zu (L' := [Zy,Zy,Zy,Zy,Zy,Zy,Zy,Zy,Zz,Zz,Zz,Zz,Zz]) 7 (⟨⟨_, H8.ok mem0, by first | rfl | exact congrArg some hYv⟩, H8.ok mem4⟩)
 ·intro wS sS
  obtain ⟨cs, hcs, hc0⟩ := sS.1
  refine Z05 (Z0r hcs) mem0 rfl rfl underlying54 rfl rfl hc0 ?_
  refine Z01 ?_
  exact Z04 rfl
 refine Z0v (L' := [Zy,Zy,Zy,Zy,Zy,Zy,Zy,Zy,Zy,Zz,Zz,Zz,Zz]) 8 ZK rfl rfl ?_
 refine Z1B rfl rfl underlying54 rfl (Own.ik (Z0L _) (H8.ok mem1)) ?_
 refine Z01 ?_
 refine Z0n (⟨⟨_, H8.ok mem0, by first | rfl | exact congrArg some hYv⟩, H8.ok mem4⟩) ?_
 apply Zu (L' := [Zy,Zy,Zy,Zy,Zy,Zy,Zy,Zy,Zy,Zy,Zz,Zz,Zz]) 9 (⟨⟨_, H8.ok mem0, by first | rfl | exact congrArg some hYv⟩, H8.ok mem4⟩)
 ·intro wS sS
  refine Z2e rfl rfl rfl rfl ZO (Z2E ZO) ?_
  refine Z01 ?_
  exact Z04 rfl
 refine Z0N (L' := [Zy,Zy,Zy,Zy,Zy,Zy,Zy,Zy,Zy,Zy,Zy,Zz,Zz]) 10 rfl ZK ZK ZK rfl rfl rfl (⟨⟨_, H8.ok mem0, by first | rfl | exact congrArg some hYv⟩, H8.ok mem4⟩) rfl ?_
 apply Zu (L' := [Zy,Zy,Zy,Zy,Zy,Zy,Zy,Zy,Zy,Zy,Zy,Zy,Zz]) 11 (⟨⟨_, H8.ok mem0, by first | rfl | exact congrArg some hYv⟩, H8.ok mem4⟩)
 ·intro wS sS
  refine Z09 fo56_1 rfl rfl rfl (Z01 ?_)
  exact Z04 rfl
 refine Z0v (L' := [Zy,Zy,Zy,Zy,Zy,Zy,Zy,Zy,Zy,Zy,Zy,Zy,Zy]) 12 ZK rfl rfl ?_
 refine Z0j (s := 25) (v' := .int .i64 (((i + 1) % X.hs.length : Nat) : Int)) rfl (congrArg (Value.int .i64) (by rw [hmal]; norm_cast)) ?_
 refine Z0s H8 .head (gC_setFr Y ((i + 1) % X.hs.length) rfl) rfl tz3 rfl rfl rfl (fun w9 H9 => ?_)
 refine Z01 ?_
 refine Z0n (⟨⟨_, H9.ok mem0, by first | rfl | exact congrArg some hYv⟩, H9.ok mem4⟩) ?_
 refine Z0B ZK ?_
 try dsimp only
 refine Z1o results58 ?_
 refine ⟨_, rfl, ?_⟩
 have H14 := St.del (.tail (.tail (.tail (.tail .head)))) (St.front3 (St.front3 (St.front3 (St.front3 H9))))
 refine ⟨{ Y with fr := (i + 1) % X.hs.length }, rfl, ?_, St.transS (H14.cast ?_)⟩
 ·have e := stepG_eq (G := X.abs) (i := i) (by simpa [Gm.abs] using hi)
  show GW.mk Y.abs.hs Y.abs.sg ((i + 1) % X.hs.length) = _
  rw [← hY1, ← hY2, show X.hs.length = X.abs.hs.length by simp [Gm.abs], ← e.1]
 show [_, As.rk _ 3 X.vh (X.hs.map Z0V), _, _] = [_, As.rk _ 3 Y.vh (Y.hs.map Z0V), _, _]
 rw [hYh, hYv]
 rfl
theorem HandsD (b : Nat) (X : Gm) (w : World) (hGF : GF b X w) :
  Z0f P 45 [ptr b] w fun r w' => r = .int .i64 (X.hs.length : Int) ∧ w = w' := by
 refine Z0o func45 rfl ntmps45 rfl ?_
 refine Z03 (Z00 (Zg (Z01 (Z02 ?_))))
 refine Zk [0] ?_
 refine Z03 (Z00 (Zm (Z0b rfl rfl rfl (Z09 Z2I rfl rfl rfl ?_))))
 refine Z05 (Z0r hGF.hb) mem0 rfl rfl underlying54 rfl rfl (rfl) ?_
 refine Z1B rfl rfl underlying54 rfl hGF.hh ?_
 refine Zg (Z01 (Z02 ?_))
 refine Zk [2] ?_
 refine Z0i ?_
 refine Z0e results45 rfl ?_
 refine ⟨_, rfl, ?_⟩
 exact ⟨by rw [List.length_map], rfl⟩
theorem HandD (b : Nat) (X : Gm) (hwf : Wf X.abs) (i : Int) (w : World) (hGF : GF b X w) :
  Z0f P 41 [ptr b, .int .i64 i] w fun r w' => r = handVal (Z3c X.abs i) ∧ Grow w w' [] := by
 refine Z0o func41 rfl ntmps41 rfl ?_
 have H0 := St.start w
 have hn16 : X.hs.length ≤ 16 := by simpa [Gm.abs] using hwf.n16
 have hfr16 : X.fr ≤ 16 := hwf.fr
 refine Z03 (Z00 ?_)
 refine Z0X H0 ta44 rfl rfl (fun b0_0 w1 H1 => ?_)
 refine Z01 (Z02 (Z03 (Z03 (Z00 (Zm ?_)))))
 refine Zl ?_
 refine Zm ?_
 apply l_or 7 [0, 1, 4] rfl rfl (.cons rfl (.cons rfl (.cons rfl (.cons rfl .nil)))) rfl rfl (fun _ => rfl) rfl rfl rfl
 ·intro hg1_3
  refine Zm (Zm (Z0b rfl rfl rfl (Z09 Z2I rfl rfl rfl ?_)))
  refine Z05 (Z0r (hGF.arg H1).hb) mem0 rfl rfl underlying54 rfl rfl (rfl) ?_
  refine Z1B rfl rfl underlying54 rfl (hGF.arg H1).hh ?_
  refine Z0j (s := 13) (v' := .int .i64 (X.hs.length : Int)) rfl (by rw [List.length_map]) ?_
  refine Zh ?_
  refine Z01 ?_
  exact Z0O rfl (.cons rfl (ZF hg1_3) (.cons rfl rfl (.cons rfl rfl (.cons rfl rfl .nil))))
  all_goals infer_instance
 refine Z01 (Z02 ?_)
 refine Zk [0, 1, 4, 15] ?_
 (first | refine Z0c rfl ?_ ?_ | refine Z08 rfl ?_ ?_) <;> intro hc0
 ·refine Z03 (Z00 ?_)
  refine Z16 rfl rfl pl44 ta44 .nil ?_
  refine Z0m H1 .head (.zero (.zero (.zero .nil))) rfl tz44 rfl rfl ZC (fun w2 H2 => ?_)
  refine Z01 (Z02 ?_)
  refine Zk [4] ?_
  refine Z0i ?_
  refine Z07 ?_
  refine Z2n results41 (.cell rfl (Z0E H2 mem0 underlying44 rfl tz44 (.take (.take (.take .nil)))) .nil) ?_
  refine ⟨_, rfl, ?_⟩
  have H3 := St.del .head H2
  refine ⟨?_, H3.grows⟩
  have e : Z3c X.abs i = (0, 0, 0) := by
   unfold Z3c
   split
   ·rename_i h
    rw [List.getElem?_eq_none (by simp only [Gm.abs, List.length_map]; omega)]
   rfl
  rw [e]
  all_goals rfl
 refine Z0a (Z02 ?_)
 refine Zk [0, 1, 4] ?_
 refine Z03 (Z00 ?_)
 have hin : 0 ≤ i ∧ i < X.hs.length := by simp at hc0; omega
 obtain ⟨m, hm⟩ : ∃ m, X.hs[i.toNat]? = some m := ⟨_, List.getElem?_eq_getElem ZO⟩
 have hrow : (X.hs.map Z0V)[i.toNat]? = some (Z0V m) := by rw [List.getElem?_map, hm]; rfl
 have hil := (List.getElem?_eq_some_iff.1 hm).1
 have hmal : (X.hs.map Z0V).length = X.hs.length := List.length_map _
 obtain ⟨Ah, ch, hvh⟩ : ∃ A c, X.vh = .slice (some A) (X.hs.map Z0V).length c := by
  obtain ⟨_, A, c, e, _, hs⟩ := (hGF.arg H1).hh
  obtain ⟨ad, rfl⟩ := hs.some_ (by rw [(Z0L _).len]; omega)
  exact ⟨ad, c, e⟩
 refine Zm (Z0b rfl rfl rfl (Z09 Z2I rfl rfl rfl ?_))
 refine Z05 (Z0r (hGF.arg H1).hb) mem0 rfl rfl underlying54 rfl rfl (rfl) ?_
 refine Zm ?_
 refine Z0j (s := 21) (v' := .int .i64 ((i.toNat : Nat) : Int)) rfl (congrArg (Value.int .i64) ZO) ?_
 refine Z1s (j := i.toNat) rfl rfl underlying54 tz71 (by decide) rfl rfl (hGF.arg H1).hh hvh ZP ZO ?_
 refine Z0D fo71_2 rfl rfl rfl ?_
 refine Z0R (j := i.toNat) (o := 2) (r := Z0V m) rfl rfl underlying69 rfl rfl hvh (hGF.arg H1).hh hrow rfl ?_
 refine Z3g rfl rfl rfl func53 rfl rfl .nil (atCG b i.toNat X hwf m hm w1 (hGF.arg H1)) ?_
 rintro _ w4 ⟨rfl, hG⟩
 have H4 := hG _ _ _ _ H1
 simp only [Zca, Zna] at H4
 refine Z0m H4 .head (.zero (.zero (.zero .nil))) rfl tz44 rfl rfl ZC (fun w5 H5 => ?_)
 refine Z01 (Z02 ?_)
 refine Zk [4] ?_
 refine Z0i ?_
 refine Z2n results41 (.cell rfl (Z0E H5 mem0 underlying44 rfl tz44 (.take (.take (.take .nil)))) .nil) ?_
 refine ⟨_, rfl, ?_⟩
 have H6 := St.del .head H5
 refine ⟨?_, H6.grows⟩
 have e : Z3c X.abs i = (m.h.line, (m.h.nx : Int), if m.h.line = 2 ∨ m.h.line = 3 then Z1d m.h else -1) := by
  unfold Z3c
  rw [if_pos hin.1, Z37 hm]
 rw [e]
 all_goals rfl
theorem OverD (b : Nat) (X : Gm) (hwf : Wf X.abs) (w : World) (hGF : GF b X w) :
  Z0f P 44 [ptr b, .int .i64 0, .int .i64 (X.hs.length : Int)] w fun r w' => r = .bool (overG X.abs) ∧ Grow w w' [] := by
 refine Z0o func44 rfl ntmps44 rfl ?_
 have H0 := St.start w
 have hn16 : X.hs.length ≤ 16 := by simpa [Gm.abs] using hwf.n16
 have hfr16 : X.fr ≤ 16 := hwf.fr
 refine Z03 (Z00 (Zg (Z01 (Z02 ?_))))
 refine Zk [0, 1, 2] ?_
 refine Z03 (Z03 (Z00 (Zm (Z0b rfl rfl rfl (Z09 Z2I rfl rfl rfl ?_)))))
 refine Z05 (Z0r (hGF.arg H0).hb) mem0 rfl rfl underlying54 rfl rfl (rfl) ?_
 refine Zm (Zm ?_)
 obtain ⟨_, Av, cv, hvv, hcv, _⟩ := (hGF.arg H0).hh
 refine Z2d (size := 3) (l := 0) (h := X.hs.length) (mm := cv) (A := Av) (m := (X.hs.map Z0V).length) (c := cv) rfl rfl underlying54 tz71 (by show some X.vh = _; rw [hvv]) rfl rfl rfl rfl rfl rfl (by simp) ZO (by rw [List.length_map] at hcv; omega) (Nat.le_refl _) ?_
 refine Z0j (s := 15) (v' := X.vh) rfl (by rw [cutA0, hvv, List.length_map]; rfl) ?_
 refine Z1B rfl rfl underlying54 rfl (hGF.arg H0).hh ?_
 refine Z0j (s := 16) (v' := .int .i64 (X.hs.length : Int)) rfl (by rw [List.length_map]) ?_
 refine Zm (Z01 (Z02 ?_))
 refine Zk [15, 16, 17] ?_
 refine Z0d ?_
 refine Z0z (ι := Nat) (fun (i : Nat) => X.hs.length - i) (fun (i : Nat) (w' : World) => St w w.heap.size Z0J ([]) w' ∧ i ≤ X.hs.length ∧ ∀ (j : Nat) m, j < i → X.hs[j]? = some m → m.h.line = 4) (fun (i : Nat) => [(17, .int .i64 (i : Int))]) [15, 16] (0) ?_ (.cons rfl (.cons rfl .nil)) ?_ ?_
 ·exact ⟨H0, ZO, fun j m h => by omega⟩
 ·exact (.cons rfl ZN .nil)
 rintro i w1 ⟨H1, hi, hno⟩
 show RunC P _ _ _ (_ :: _) _
 refine Z03 (Z00 ?_)
 refine Zl ?_
 refine Z01 (Z02 (Z03 ?_))
 (first | refine Z0c rfl ?_ ?_ | refine Z08 rfl ?_ ?_) <;> intro hc0
 ·refine Z0a (Z02 ?_)
  refine Zk [15, 16, 17] ?_
  refine Z03 (Z0d (Z03 (Z00 ?_)))
  obtain ⟨m, hm⟩ : ∃ m, X.hs[i]? = some m := ⟨_, List.getElem?_eq_getElem ZO⟩
  have hrow : (X.hs.map Z0V)[i]? = some (Z0V m) := by rw [List.getElem?_map, hm]; rfl
  have hil := (List.getElem?_eq_some_iff.1 hm).1
  have hmal : (X.hs.map Z0V).length = X.hs.length := List.length_map _
  obtain ⟨Ah, ch, hvh⟩ : ∃ A c, X.vh = .slice (some A) (X.hs.map Z0V).length c := by
   obtain ⟨_, A, c, e, _, hs⟩ := (hGF.arg H1).hh
   obtain ⟨ad, rfl⟩ := hs.some_ (by rw [(Z0L _).len]; omega)
   exact ⟨ad, c, e⟩
  refine Z1s (j := i) rfl rfl underlying54 tz71 (by decide) rfl rfl (hGF.arg H1).hh hvh ZP ZO ?_
  refine Z2w (j := i) rfl rfl underlying71 rfl tz71 rfl hvh (hGF.arg H1).hh hrow ?_
  refine Z0X H1 ta71 rfl rfl (fun b3_2 w2 H2 => ?_)
  refine Z0m H2 .head (.zero (.zero (.zero .nil))) rfl tz71 rfl rfl ZC (fun w3 H3 => ?_)
  refine Z01 (Z02 ?_)
  refine Zk [8, 15, 16, 17] ?_
  refine Z03 (Z00 (Z09 fo71_2 rfl rfl rfl ?_))
  refine Z05 H3 mem0 rfl rfl underlying69 rfl rfl rfl ?_
  refine Z3g rfl rfl rfl func53 rfl rfl .nil (atCG b i X hwf m hm w3 (hGF.arg H3)) ?_
  rintro _ w4 ⟨rfl, hG⟩
  have H4 := hG _ _ _ _ H3
  simp only [Zca, Zna] at H4
  refine l_fieldv (show fieldTy P 44 0 = some (0, true) by kernel_rfl) rfl rfl rfl rfl ?_
  refine Zo ?_
  refine Z01 (Z02 ?_)
  refine Zk [15, 16, 17, 25] ?_
  (first | refine Z0c rfl ?_ ?_ | refine Z08 rfl ?_ ?_) <;> intro hc1
  ·refine Z03 (Z00 (Zg (Z01 (Z02 ?_))))
   refine Zk [6] ?_
   refine Z0i ?_
   refine Z0k ?_
   refine Z07 ?_
   refine Z07 ?_
   refine Z0k ?_
   refine Z07 ?_
   refine Z0e results44 rfl ?_
   refine ⟨_, rfl, ?_⟩
   have H5 := St.del .head H4
   refine ⟨congrArg Value.bool ?_, H5.grows⟩
   refine Eq.symm (List.all_eq_false.2 ⟨m.h, ?_, by simpa using hc1⟩)
   exact List.mem_of_getElem? (Z37 hm)
  refine Z0a ?_
  refine Z0F ?_
  refine Z02 ?_
  refine Zk [15, 16, 17] ?_
  refine Z00 ?_
  refine Z0y rfl rfl rfl rfl (Z0l ZO) ?_
  refine Zm (Z01 ?_)
  have H6 := St.del .head H4
  refine Z0p (i := (i)) (i + 1) ?_ ?_ (.cons rfl (.cons rfl .nil)) ?_
  ·first | omega | (simp; omega)
  ·exact ⟨H6, ZO, fun j m2 h hm2 => by
    by_cases e : j = i
    ·subst e
     rw [hm] at hm2
     cases hm2
     omega
    exact hno j m2 ZO hm2⟩
  exact (.cons rfl ZN .nil)
 refine Z0H ?_
 refine Z06 ?_
 refine Z06 ?_
 refine Z0h ?_
 refine Z02 ?_
 refine Zk [] ?_
 refine Z03 (Z00 (Zg (Z01 (Z02 ?_))))
 refine Z0i ?_
 refine Z0e results44 rfl ?_
 refine ⟨_, rfl, ?_⟩
 refine ⟨congrArg Value.bool ?_, H1.grows⟩
 refine Eq.symm (List.all_eq_true.2 fun h hh => ?_)
 obtain ⟨m2, hm2, rfl⟩ := List.mem_map.1 (show h ∈ X.hs.map (·.h) from hh)
 obtain ⟨j, hj, rfl⟩ := List.mem_iff_getElem.1 hm2
 simpa using hno j _ ZO (List.getElem?_eq_getElem hj)
theorem nextD (b : Nat) (X : Gm) (hwf : Wf X.abs) (w : World) (hGF : GF b X w) :
  Z0f P 63 [ptr b] w fun r w' => r = .tuple #[moveV (Z1L X.abs), .bool (Z1L X.abs).isSome] ∧ Grow w w' [] := by
 refine Z0o func63 rfl ntmps63 rfl ?_
 have H0 := St.start w
 have hn16 : X.hs.length ≤ 16 := by simpa [Gm.abs] using hwf.n16
 have hfr16 : X.fr ≤ 16 := hwf.fr
 refine Z03 (Z00 ?_)
 refine Z0X H0 ta87 rfl rfl (fun b0_0 w1 H1 => ?_)
 refine Zg (Z01 (Z02 ?_))
 refine Zk [0, 2] ?_
 refine Z03 (Z03 (Z00 (Zm (Z0b rfl rfl rfl (Z09 Z2I rfl rfl rfl ?_)))))
 refine Z05 (Z0r (hGF.arg H1).hb) mem0 rfl rfl underlying54 rfl rfl (rfl) ?_
 refine Z1B rfl rfl underlying54 rfl (hGF.arg H1).hh ?_
 refine Z0j (s := 11) (v' := .int .i64 (X.hs.length : Int)) rfl (by rw [List.length_map]) ?_
 refine Zm (Z01 (Z02 ?_))
 refine Zk [0, 2, 11, 12] ?_
 refine Z0d ?_
 refine Z0z (ι := Nat) (fun (i : Nat) => X.hs.length - i) (fun (i : Nat) (w' : World) => St w w.heap.size Z0J ([As.blk b0_0 87 [.int .i64 0, .int .i64 0]]) w' ∧ i ≤ X.hs.length ∧ ∀ j, j < i → mayG X.abs ((X.fr + j) % X.hs.length) = false) (fun (i : Nat) => [(12, .int .i64 (i : Int))]) [0, 2, 11] (0) ?_ (.cons rfl (.cons rfl (.cons rfl .nil))) ?_ ?_
 ·exact ⟨H1, ZO, fun j h => by omega⟩
 ·exact (.cons rfl ZN .nil)
 rintro i w2 ⟨H2, hi, hno⟩
 show RunC P _ _ _ (_ :: _) _
 refine Z03 (Z00 ?_)
 refine Zl ?_
 refine Z01 (Z02 (Z03 ?_))
 (first | refine Z0c rfl ?_ ?_ | refine Z08 rfl ?_ ?_) <;> intro hc0
 ·refine Z0a (Z02 ?_)
  refine Zk [0, 2, 11, 12] ?_
  refine Z03 (Z0d (Z03 (Z00 (Zm (Zg (Z01 (Z02 ?_)))))))
  refine Zk [0, 2, 4, 11, 12] ?_
  refine Z03 ?_
  have H3 := H2.drewn
  refine Z1a (n := 13) [Zz,Zz,Zz,Zz,Zz,Zz,Zz,Zz,Zz,Zz,Zz,Zz,Zz] (fun wS => (As.blk b 63 (gC X)).ok wS ∧ True) ZK rfl rfl ?_
  apply Zu (L' := [Zy,Zz,Zz,Zz,Zz,Zz,Zz,Zz,Zz,Zz,Zz,Zz,Zz]) 0 (⟨(hGF.arg H3).hb, trivial⟩)
  ·intro wS sS
   refine Zm (Z01 ?_)
   exact Z04 rfl
  refine Z0N (L' := [Zy,Zy,Zz,Zz,Zz,Zz,Zz,Zz,Zz,Zz,Zz,Zz,Zz]) 1 rfl ZK ZK ZK rfl rfl rfl (⟨(hGF.arg H3).hb, trivial⟩) rfl ?_
  apply Zu (L' := [Zy,Zy,Zy,Zz,Zz,Zz,Zz,Zz,Zz,Zz,Zz,Zz,Zz]) 2 (⟨(hGF.arg H3).hb, trivial⟩)
  ·intro wS sS
   refine Z09 fo56_1 rfl rfl rfl (Z01 ?_)
   exact Z04 rfl
  apply Zu (L' := [Zy,Zy,Zy,Zy,Zz,Zz,Zz,Zz,Zz,Zz,Zz,Zz,Zz]) 3 (⟨(hGF.arg H3).hb, trivial⟩)
  ·intro wS sS
   refine Z05 (Z0r sS.1) mem0 rfl rfl underlying3 rfl rfl (rfl) ?_
   refine Z01 ?_
   exact Z04 rfl
  apply Zu (L' := [Zy,Zy,Zy,Zy,Zy,Zz,Zz,Zz,Zz,Zz,Zz,Zz,Zz]) 4 (⟨(hGF.arg H3).hb, trivial⟩)
  ·intro wS sS
   refine Zm (Z01 ?_)
   exact Z04 rfl
  apply Zu (L' := [Zy,Zy,Zy,Zy,Zy,Zy,Zz,Zz,Zz,Zz,Zz,Zz,Zz]) 5 (⟨(hGF.arg H3).hb, trivial⟩)
  ·intro wS sS
   refine Z0y rfl rfl rfl rfl (Z0l ZO) ?_
   refine Z01 ?_
   exact Z04 rfl
  apply Zu (L' := [Zy,Zy,Zy,Zy,Zy,Zy,Zy,Zz,Zz,Zz,Zz,Zz,Zz]) 6 (⟨(hGF.arg H3).hb, trivial⟩)
  ·intro wS sS
   refine Zm (Z01 ?_)
   exact Z04 rfl
  refine Z0N (L' := [Zy,Zy,Zy,Zy,Zy,Zy,Zy,Zy,Zz,Zz,Zz,Zz,Zz]) 7 rfl ZK ZK ZK rfl rfl rfl (⟨(hGF.arg H3).hb, trivial⟩) rfl ?_
  apply Zu (L' := [Zy,Zy,Zy,Zy,Zy,Zy,Zy,Zy,Zy,Zz,Zz,Zz,Zz]) 8 (⟨(hGF.arg H3).hb, trivial⟩)
  ·intro wS sS
   refine Z09 Z2I rfl rfl rfl (Z01 ?_)
   exact Z04 rfl
  apply Zu (L' := [Zy,Zy,Zy,Zy,Zy,Zy,Zy,Zy,Zy,Zy,Zz,Zz,Zz]) 9 (⟨(hGF.arg H3).hb, trivial⟩)
  ·intro wS sS
   refine Z05 (Z0r sS.1) mem0 rfl rfl underlying54 rfl rfl (rfl) ?_
   refine Z01 ?_
   exact Z04 rfl
  refine Z0v (L' := [Zy,Zy,Zy,Zy,Zy,Zy,Zy,Zy,Zy,Zy,Zy,Zz,Zz]) 10 ZK rfl rfl ?_
  refine Z1B rfl rfl underlying54 rfl (hGF.arg H3).hh ?_
  refine Z0j (s := 25) (v' := .int .i64 (X.hs.length : Int)) rfl (by rw [List.length_map]) ?_
  refine Z01 ?_
  refine Z0n (⟨(hGF.arg H3).hb, trivial⟩) ?_
  apply Zu (L' := [Zy,Zy,Zy,Zy,Zy,Zy,Zy,Zy,Zy,Zy,Zy,Zy,Zz]) 11 (⟨(hGF.arg H3).hb, trivial⟩)
  ·intro wS sS
   refine Z2e rfl rfl rfl rfl ZO (Z2E ZO) ?_
   refine Z01 ?_
   exact Z04 rfl
  apply Zu (L' := [Zy,Zy,Zy,Zy,Zy,Zy,Zy,Zy,Zy,Zy,Zy,Zy,Zy]) 12 (⟨(hGF.arg H3).hb, trivial⟩)
  ·intro wS sS
   refine Zg (Z01 ?_)
   exact Z04 rfl
  refine Z0B ZK ?_
  refine Z02 ?_
  refine Zk [0, 2, 5, 11, 12] ?_
  refine Z03 (Z00 ?_)
  refine Z0j (s := 5) (v' := .int .i64 (((X.fr + i) % X.hs.length : Nat) : Int)) rfl (congrArg (Value.int .i64) (by norm_cast)) ?_
  have hlt : (X.fr + i) % X.hs.length < X.hs.length := Nat.mod_lt _ ZO
  obtain ⟨m, hm⟩ : ∃ m, X.hs[(X.fr + i) % X.hs.length]? = some m := ⟨_, List.getElem?_eq_getElem ZO⟩
  have hrow : (X.hs.map Z0V)[(X.fr + i) % X.hs.length]? = some (Z0V m) := by rw [List.getElem?_map, hm]; rfl
  have hil := (List.getElem?_eq_some_iff.1 hm).1
  have hmal : (X.hs.map Z0V).length = X.hs.length := List.length_map _
  obtain ⟨Ah, ch, hvh⟩ : ∃ A c, X.vh = .slice (some A) (X.hs.map Z0V).length c := by
   obtain ⟨_, A, c, e, _, hs⟩ := (hGF.arg H3).hh
   obtain ⟨ad, rfl⟩ := hs.some_ (by rw [(Z0L _).len]; omega)
   exact ⟨ad, c, e⟩
  refine Zm (Z01 (Z02 (Z0d ?_)))
  refine Z0z (ι := Nat) (fun (c : Nat) => 2 - c) (fun (c : Nat) (w' : World) => St w w.heap.size Z0J ([As.blk b0_0 87 [.int .i64 0, .int .i64 0]]) w' ∧ c ≤ 2 ∧ (0 < c → mayG X.abs ((X.fr + i) % X.hs.length) = false)) (fun (c : Nat) => [(27, .int .i64 (c : Int))]) [0, 2, 5, 11, 12] (0) ?_ (.cons rfl (.cons rfl (.cons rfl (.cons rfl (.cons rfl .nil))))) ?_ ?_
  ·exact ⟨H3, ZO, fun h => by omega⟩
  ·exact (.cons rfl ZN .nil)
  rintro c w4 ⟨H4, hc, hnm⟩
  show RunC P _ _ _ (_ :: _) _
  refine Z03 (Z00 ?_)
  refine Zl ?_
  refine Z01 (Z02 (Z03 ?_))
  (first | refine Z0c rfl ?_ ?_ | refine Z08 rfl ?_ ?_) <;> intro hc1
  ·refine Z0a (Z02 ?_)
   refine Zk [0, 2, 5, 11, 12, 27] ?_
   refine Z03 (Z0d (Z03 (Z00 (Zm (Zg (Z01 (Z02 ?_)))))))
   refine Zk [0, 2, 5, 6, 11, 12, 27] ?_
   refine Z03 (Z00 (Zm (Z0b rfl rfl rfl (Z09 Z2I rfl rfl rfl ?_))))
   refine Z05 (Z0r (hGF.arg H4).hb) mem0 rfl rfl underlying54 rfl rfl (rfl) ?_
   refine Zm ?_
   refine Z1s (j := (X.fr + i) % X.hs.length) rfl rfl underlying54 tz71 (by decide) rfl rfl (hGF.arg H4).hh hvh ZP (by rw [hmal]; exact hlt) ?_
   refine Z0D fo71_0 rfl rfl rfl ?_
   refine Z0R (j := (X.fr + i) % X.hs.length) (o := 0) (r := Z0V m) rfl rfl underlying67 rfl rfl hvh (hGF.arg H4).hh hrow rfl ?_
   refine Zm ?_
   refine Z3g rfl rfl rfl func47 rfl rfl (.cons rfl .nil) (mayCG b ((X.fr + i) % X.hs.length) X hwf m hm c w4 (hGF.arg H4)) ?_
   rintro _ w5 ⟨rfl, hG⟩
   have H5 := hG _ _ _ _ H4
   simp only [Zca, Zna] at H5
   refine Z01 (Z02 ?_)
   refine Zk [0, 2, 5, 6, 11, 12, 27, 39] ?_
   (first | refine Z0c rfl ?_ ?_ | refine Z08 rfl ?_ ?_) <;> intro hc2
   ·refine Z03 (Z00 (Zm (Zm ?_)))
    refine Z16 rfl rfl pl87 ta87 (.one rfl rfl ZR .zero (.one rfl rfl ZR (.succ .zero) .nil)) ?_
    refine Z0m H5 .head (.zero (.zero .nil)) rfl tz87 rfl rfl ZC (fun w6 H6 => ?_)
    refine Zg (Z01 (Z02 ?_))
    refine Zk [2, 3] ?_
    refine Z0i ?_
    refine Z0k ?_
    refine Z07 ?_
    refine Z07 ?_
    refine Z0k ?_
    refine Z0k ?_
    refine Z07 ?_
    refine Z07 ?_
    refine Z0k ?_
    refine Z07 ?_
    refine Z12 results63 (.cell rfl (Z0E H6 mem0 underlying87 rfl tz87 (.take (.take .nil))) (.tmp rfl .nil)) rfl ?_
    refine ⟨_, rfl, ?_⟩
    have H7 := St.del .head H6
    have hc2 : c = 0 ∧ mayG X.abs ((X.fr + i) % X.hs.length) = true := by simpa using hc2
    obtain ⟨rfl, hmy⟩ := hc2
    have e := next_some (G := X.abs) (i := i) (by simpa [Gm.abs] using (show i < X.hs.length by omega)) (by simpa [Gm.abs] using hmy) (by simpa [Gm.abs] using hno)
    rw [show X.abs.hs.length = X.hs.length by simp [Gm.abs]] at e
    refine ⟨?_, H7.grows⟩
    rw [e]
    all_goals rfl
   refine Z0a ?_
   refine Z0F ?_
   refine Z02 ?_
   refine Zk [0, 2, 5, 11, 12, 27] ?_
   refine Z00 ?_
   refine Z0y rfl rfl rfl rfl (Z0l ZO) ?_
   refine Zm (Z01 ?_)
   refine Z0p (i := (c)) (c + 1) ?_ ?_ (.cons rfl (.cons rfl (.cons rfl (.cons rfl (.cons rfl .nil))))) ?_
   ·first | omega | (simp; omega)
   ·exact ⟨H5, ZO, fun _ => by
     by_cases e : c = 0
     ·subst e; simpa using hc2
     exact hnm ZO⟩
   exact (.cons rfl ZN .nil)
  refine Z0H ?_
  refine Z06 ?_
  refine Z06 ?_
  refine Z0h ?_
  refine Z0F ?_
  refine Z02 ?_
  refine Zk [0, 2, 11, 12] ?_
  refine Z00 ?_
  refine Z0y rfl rfl rfl rfl (Z0l ZO) ?_
  refine Zm (Z01 ?_)
  refine Z0p (i := (i)) (i + 1) ?_ ?_ (.cons rfl (.cons rfl (.cons rfl .nil))) ?_
  ·first | omega | (simp; omega)
  ·exact ⟨H4, ZO, fun j h => by
    by_cases e : j = i
    ·subst e; exact hnm ZO
    exact hno j ZO⟩
  exact (.cons rfl ZN .nil)
 refine Z0H ?_
 refine Z06 ?_
 refine Z06 ?_
 refine Z0h ?_
 refine Z02 ?_
 refine Zk [2] ?_
 refine Z03 (Z00 ?_)
 refine Z16 rfl rfl pl87 ta87 .nil ?_
 refine Z0m H2 .head (.zero (.zero .nil)) rfl tz87 rfl rfl ZC (fun w8 H8 => ?_)
 refine Zg (Z01 (Z02 ?_))
 refine Zk [2, 3] ?_
 refine Z0i ?_
 refine Z12 results63 (.cell rfl (Z0E H8 mem0 underlying87 rfl tz87 (.take (.take .nil))) (.tmp rfl .nil)) rfl ?_
 refine ⟨_, rfl, ?_⟩
 have H9 := St.del .head H8
 have e := next_none (G := X.abs) (fun j hj => by simpa [Gm.abs] using hno j (by simp [Gm.abs] at hj; omega))
 refine ⟨?_, H9.grows⟩
 rw [e]
 all_goals rfl
theorem Z4C {α : Type} {L : List α} {s : Nat} (hs : s < L.length) (x z : α) (t : Nat) : (L.set s x).getD t z = if t = s then x else L.getD t z := by
 simp only [List.getD_eq_getElem?_getD, List.getElem?_set]
 by_cases e : s = t
 ·subst e; simp [hs]
 rw [if_neg e, if_neg (fun h => e h.symm)]
theorem get_set {α : Type} {L : List α} {i : Nat} (hi : i < L.length) (x : α) (j : Nat) : (L.set i x)[j]? = if j = i then some x else L[j]? := by
 rw [List.getElem?_set]
 by_cases e : i = j
 ·subst e; simp [hi]
 rw [if_neg e, if_neg (fun h => e h.symm)]
inductive Mv (s : Int) (h : Hd) (y : Sg) : Hd → Sg → Prop
 | lay (hl : h.line = 2) : Mv s h y { h with line := if y.laid + 1 = Z15 s then 3 else 2 } { y with laid := y.laid + 1 }
 | show (hl : h.line = 3) : Mv s h y { h with line := 1 } { y with done := true }
 | take (hl : h.line = 1) (hd : y.done = false) (hb : y.built = 0) : Mv s h y { h with line := 2, tk := s } { y with built := 1 }
 | read (hl : h.line = 1) (hd : y.done = true) : Mv s h y { h with nx := h.nx + 1, line := if h.nx + 1 = h.asks.length then 4 else 1 } y
theorem mv_of {s : Int} {h : Hd} {y : Sg} (hm : mayH h y = true) : Mv s h y (Z0G s h y).1 (Z0G s h y).2 := by
 unfold mayH at hm
 unfold Z0G
 by_cases h2 : h.line = 2
 ·rw [if_pos h2]; exact .lay h2
 rw [if_neg h2]
 by_cases h3 : h.line = 3
 ·rw [if_pos h3]; exact .show h3
 rw [if_neg h3]
 have h1 : h.line = 1 := by
  by_cases h1 : h.line = 1
  ·exact h1
  rw [if_neg h1] at hm; simp [h2, h3] at hm
 rw [if_pos h1] at hm
 by_cases hd : y.done = false
 ·rw [if_pos hd]
  have hb : y.built = 0 := by simpa [hd] using hm
  have := Mv.take (s := s) h1 hd hb
  rw [hb]
  simpa using this
 rw [if_neg hd]; exact .read h1 (by simpa using hd)
theorem Z3D {G : GW} {i : Nat} (hm : mayG G i = true) : ∃ h h' y', i < G.hs.length ∧ G.hs[i]? = some h ∧ Mv (Z1d h) h (sgN G (Z0x h)) h' y' ∧ Z1S G i = ⟨G.hs.set i h', G.sg.set (Z0x h) y', (i + 1) % G.hs.length⟩ := by
 unfold mayG at hm
 cases hi : G.hs[i]? with
 | none => rw [hi] at hm; cases hm
 | some h =>
  rw [hi] at hm
  refine ⟨h, _, _, (List.getElem?_eq_some_iff.1 hi).1, rfl, mv_of hm, ?_⟩
  unfold Z1S
  rw [hi]
theorem Wf.step {G : GW} {i : Nat} (hw : Wf G) (hm : mayG G i = true) : Wf (Z1S G i) := by
 obtain ⟨h, h', y', hi, hih, hv, e⟩ := Z3D hm
 rw [e]
 have hb := Z1G h
 have ho := hw.hd i h hih
 have hsl : Z0x h < G.sg.length := by rw [hw.sg]; exact hb.2
 have hys := hw.at hb.2
 have hok := hw.sok _ _ hys
 obtain ⟨s, hs⟩ : ∃ s, Z0x h = s := ⟨_, rfl⟩
 obtain ⟨y, hy⟩ : ∃ y, sgN G (Z0x h) = y := ⟨_, rfl⟩
 have hb2 := ho.b2
 have hb3 := ho.b3
 rw [hy] at hv hys hok hb2 hb3
 rw [hs] at hsl hys hok hy
 have hws : Z1d h = (s : Int) := by rw [← hs]; exact hb.1
 rw [hws] at hv hb2 hb3
 have hsg : ∀ t, sgN ⟨G.hs.set i h', G.sg.set (Z0x h) y', (i + 1) % G.hs.length⟩ t = if t = s then y' else sgN G t := fun t => by
  rw [hs]; exact Z4C hsl y' _ t
 have hhs : ∀ j, (G.hs.set i h')[j]? = if j = i then some h' else G.hs[j]? := get_set hi h'
 have hn := hw.n16
 have hwn : ∀ k : Hd, Z0x k = s → Z1d k = (s : Int) := fun k hk => by rw [(Z1G k).1, hk]
 -- nobody else builds there
 have hno : ∀ j k, j ≠ i → G.hs[j]? = some k → (k.line = 2 ∨ k.line = 3) → Z0x k = s → y' = y := fun j k hj hk hl hwk => by
  have hko := hw.hd j k hk
  have hk1 : (sgN G (Z0x k)).built = 1 := by
   rcases hl with h2 | h3
   ·exact (hko.b2 h2).2.1
   exact (hko.b3 h3).1
  rw [hwk, hy] at hk1
  cases hv with
  | lay hl2 => exact absurd (hws.trans (hwn k hwk).symm) (hw.un i j h k (fun e => hj e.symm) hih hk (.inl hl2) hl)
  | «show» hl3 => exact absurd (hws.trans (hwn k hwk).symm) (hw.un i j h k (fun e => hj e.symm) hih hk (.inr hl3) hl)
  | take _ _ hb0 => omega
  | read _ _ => rfl
 have hdone : y.done = true → y'.done = true := fun hd => by
  cases hv with
  | lay hl2 => exact hd
  | «show» hl3 => rfl
  | take _ _ hb0 => exact hd
  | read _ _ => exact hd
 refine ⟨by simpa using hn, by simpa using hw.sg, ?_, fun j k hk => ?_, fun t z hz => ?_, fun j l k m hjl hk hm2 hl1 hl2 => ?_⟩
 ·have := Nat.mod_lt (i + 1) (show 0 < G.hs.length by omega)
  show (i + 1) % G.hs.length ≤ 16
  omega
 ·have hk' : (G.hs.set i h')[j]? = some k := hk
  rw [hhs] at hk'
  split at hk'
  ·-- the one who moved
   cases hk'
   cases hv with
   | lay hl =>
    obtain ⟨e1, e2, e3, e4⟩ := hb2 hl
    have hnx := ho.nx ZO
    refine ⟨ho.q, ho.al, ?_, fun _ => hnx, fun h4 => ?_, fun h2 => ?_, fun h3 => ?_, fun k hk => ?_⟩
    ·dsimp only; split <;> omega
    ·dsimp only at h4; split at h4 <;> omega
    ·dsimp only at h2
     split at h2
     ·omega
     rw [show Z0x { h with line := if y.laid + 1 = Z15 (s : Int) then 3 else 2 } = s from hs, hsg, if_pos rfl]
     exact ⟨e1.trans hws.symm, e2, e3, by rw [show Z1d { h with line := if y.laid + 1 = Z15 (s : Int) then 3 else 2 } = (s : Int) from hws]; dsimp only; omega⟩
    ·dsimp only at h3
     split at h3
     ·rw [show Z0x { h with line := if y.laid + 1 = Z15 (s : Int) then 3 else 2 } = s from hs, hsg, if_pos rfl]
      exact ⟨e2, e3, by rw [show Z1d { h with line := if y.laid + 1 = Z15 (s : Int) then 3 else 2 } = (s : Int) from hws]; assumption⟩
     omega
    have := ho.dn k hk
    rw [hsg]
    show (if (Z0K (h.asks.getD k 0)).1.toNat = s then _ else sgN G (Z0K (h.asks.getD k 0)).1.toNat).done = true
    by_cases et : (Z0K (h.asks.getD k 0)).1.toNat = s
    ·rw [if_pos et]
     rw [et, hy] at this
     exact this
    rw [if_neg et]
    exact this
   | «show» hl =>
    obtain ⟨e2, e3, e4⟩ := hb3 hl
    have hnx := ho.nx ZO
    refine ⟨ho.q, ho.al, .inl rfl, fun _ => hnx, fun h4 => by dsimp only at h4; omega, fun h2 => by dsimp only at h2; omega, fun h3 => by dsimp only at h3; omega, fun k hk => ?_⟩
    rw [hsg]
    split
    ·rfl
    exact ho.dn k hk
   | take hl hd hb0 =>
    have hnx := ho.nx ZO
    have hl0 : y.laid = 0 := by rcases hok with h | h | h <;> omega
    refine ⟨ho.q, ho.al, .inr (.inl rfl), fun _ => hnx, fun h4 => by dsimp only at h4; omega, fun _ => ?_, fun h3 => by dsimp only at h3; omega, fun k hk => ?_⟩
    ·rw [show Z0x { h with line := 2, tk := (s : Int) } = s from hs, hsg, if_pos rfl]
     refine ⟨hws.symm, rfl, hd, ?_⟩
     rw [show Z1d { h with line := 2, tk := (s : Int) } = (s : Int) from hws]
     show y.laid < Z15 (s : Int)
     have := hb.2
     unfold Z15 Z0M
     rw [if_neg ZO]
     dsimp only
     split <;> omega
    have := ho.dn k hk
    rw [hsg]
    show (if (Z0K (h.asks.getD k 0)).1.toNat = s then _ else sgN G (Z0K (h.asks.getD k 0)).1.toNat).done = true
    by_cases et : (Z0K (h.asks.getD k 0)).1.toNat = s
    ·rw [if_pos et]
     rw [et, hy] at this
     exact this
    rw [if_neg et]
    exact this
   | read hl hd =>
    have hnx := ho.nx ZO
    refine ⟨ho.q, ho.al, ?_, fun h4 => ?_, fun h4 => ?_, fun h2 => ?_, fun h3 => ?_, fun k hk => ?_⟩
    ·dsimp only; split <;> omega
    ·dsimp only at h4 ⊢; split at h4 <;> omega
    ·dsimp only at h4 ⊢; split at h4 <;> omega
    ·dsimp only at h2; split at h2 <;> omega
    ·dsimp only at h3; split at h3 <;> omega
    rw [hsg]
    show (if (Z0K (h.asks.getD k 0)).1.toNat = s then _ else sgN G (Z0K (h.asks.getD k 0)).1.toNat).done = true
    by_cases et : (Z0K (h.asks.getD k 0)).1.toNat = s
    ·rw [if_pos et]
     exact hd
    rw [if_neg et]
    have hk2 : k < h.nx + 1 := hk
    rcases Nat.lt_or_ge k h.nx with h5 | h5
    ·exact ho.dn k h5
    obtain rfl : k = h.nx := by omega
    exact absurd hs et
  -- another one
  rename_i hj
  have hko := hw.hd j k hk'
  refine ⟨hko.q, hko.al, hko.line, hko.nx, hko.en, fun h2 => ?_, fun h3 => ?_, fun n hn => ?_⟩
  ·rw [hsg]
   split
   ·rename_i et
    rw [hno j k hj hk' (.inl h2) et, ← hy, ← et]
    exact hko.b2 h2
   exact hko.b2 h2
  ·rw [hsg]
   split
   ·rename_i et
    rw [hno j k hj hk' (.inr h3) et, ← hy, ← et]
    exact hko.b3 h3
   exact hko.b3 h3
  have := hko.dn n hn
  rw [hsg]
  split
  ·rename_i et
   rw [et, hy] at this
   exact hdone this
  exact this
 ·have hz' : (G.sg.set (Z0x h) y')[t]? = some z := hz
  rw [hs, get_set hsl] at hz'
  split at hz'
  ·rename_i et
   cases hz'
   subst et
   cases hv with
   | lay hl =>
    obtain ⟨e1, e2, e3, e4⟩ := hb2 hl
    exact .inr (.inl ⟨e2, e3, by dsimp only; omega⟩)
   | «show» hl =>
    obtain ⟨e2, e3, e4⟩ := hb3 hl
    exact .inr (.inr ⟨e2, rfl, e4⟩)
   | take hl hd hb0 =>
    refine .inr (.inl ⟨rfl, hd, ?_⟩)
    rcases hok with h | h | h
    ·dsimp only; omega
    ·omega
    omega
   | read hl hd => exact hok
  exact hw.sok t z hz'
 have hk' : (G.hs.set i h')[j]? = some k := hk
 have hm' : (G.hs.set i h')[l]? = some m := hm2
 rw [hhs] at hk' hm'
 have key : ∀ (n : Nat) (m : Hd), n ≠ i → G.hs[n]? = some m → (h'.line = 2 ∨ h'.line = 3) → (m.line = 2 ∨ m.line = 3) → Z1d h' ≠ Z1d m := fun n m hne hm hl1 hl2 => by
  cases hv with
  | lay hl => exact hw.un i n h m (fun e => hne e.symm) hih hm (.inl hl) hl2
  | «show» hl => dsimp only at hl1; omega
  | take hl hd hb0 =>
   intro he
   have hwm : Z0x m = s := by rw [← hs]; unfold Z0x; rw [← he]; rfl
   have hmo := hw.hd n m hm
   have h1 : (sgN G (Z0x m)).built = 1 := by
    rcases hl2 with h2 | h3
    ·exact (hmo.b2 h2).2.1
    exact (hmo.b3 h3).1
   rw [hwm, hy] at h1
   omega
  | read hl hd => dsimp only at hl1; split at hl1 <;> omega
 split at hk'
 ·cases hk'
  split at hm'
  ·rename_i e1 e2; exact absurd (e1.trans e2.symm) hjl
  exact key l m ZA hm' hl1 hl2
 split at hm'
 ·cases hm'
  exact fun e => key j k ZA hk' hl2 hl1 e.symm
 exact hw.un j l k m hjl hk' hm' hl1 hl2
/-! ### how far it is to the end -/
def Z4j (s : Nat) (y : Sg) : Nat := if y.done = true then 0 else if y.built = 0 then 18 else Z15 (s : Int) - y.laid + 1
def Z43 (h : Hd) : Nat := h.asks.length - h.nx
def sumI {α : Type} (f : Nat → α → Nat) : List α → Nat → Nat
 | [], _ => 0
 | x :: L, n => f n x + sumI f L (n + 1)
theorem Z4D {α : Type} (f : Nat → α → Nat) : ∀ (L : List α) (n i : Nat) (x z : α), L[i]? = some x → sumI f (L.set i z) n + f (n + i) x = sumI f L n + f (n + i) z
 | [], _, i, x, z, h => by simp at h
 | y :: L, n, 0, x, z, h => by
  obtain rfl : y = x := by simpa using h
  show f n z + sumI f L (n + 1) + f n y = f n y + sumI f L (n + 1) + f n z
  omega
 | y :: L, n, i + 1, x, z, h => by
  have ih := Z4D f L (n + 1) i x z (by simpa using h)
  rw [show n + 1 + i = n + (i + 1) from by omega] at ih
  show f n y + sumI f (L.set i z) (n + 1) + f (n + (i + 1)) x = f n y + sumI f L (n + 1) + f (n + (i + 1)) z
  omega
def phiG (G : GW) : Nat := sumI (fun _ => Z43) G.hs 0 + sumI Z4j G.sg 0
theorem Z3S {G : GW} {i : Nat} (hw : Wf G) (hm : mayG G i = true) : phiG (Z1S G i) < phiG G := by
 obtain ⟨h, h', y', hi, hih, hv, e⟩ := Z3D hm
 have hb := Z1G h
 have ho := hw.hd i h hih
 have h1 := Z4D (fun _ => Z43) G.hs 0 i h h' hih
 have h2 := Z4D Z4j G.sg 0 (Z0x h) (sgN G (Z0x h)) y' (hw.at hb.2)
 have hok := hw.sok _ _ (hw.at hb.2)
 have hb2 := ho.b2
 have hb3 := ho.b3
 have hnx := ho.nx
 rw [e]
 unfold phiG
 dsimp only
 rw [Nat.zero_add] at h2
 have hsl := Z42 (Z1d h)
 rw [hb.1] at hv hb2 hb3 hsl
 generalize sgN G (Z0x h) = y at *
 generalize sumI Z4j (G.sg.set (Z0x h) y') 0 = A at *
 generalize sumI (fun _ => Z43) (G.hs.set i h') 0 = C at *
 have key : Z43 h' + Z4j (Z0x h) y' < Z43 h + Z4j (Z0x h) y := by
  cases hv with
  | lay hl =>
   obtain ⟨e1, e2, e3, e4⟩ := hb2 hl
   unfold Z43 Z4j
   dsimp only
   rw [if_neg (by simp [e3]), if_neg ZO, if_neg (by simp [e3]), if_neg ZO]
   omega
  | «show» hl =>
   obtain ⟨e2, e3, e4⟩ := hb3 hl
   unfold Z43 Z4j
   dsimp only
   rw [if_pos rfl, if_neg (by simp [e3]), if_neg ZO]
   omega
  | take hl hd hb0 =>
   unfold Z43 Z4j
   dsimp only
   rw [if_neg (by simp [hd]), if_neg (by decide), if_neg (by simp [hd]), if_pos hb0]
   omega
  | read hl hd =>
   have := hnx ZO
   unfold Z43
   dsimp only
   omega
 omega
theorem Z3T {G : GW} {i : Nat} (h : Z1L G = some i) : mayG G i = true ∧ i < G.hs.length := by
 have h1 := List.find?_some h
 refine ⟨h1, ?_⟩
 obtain ⟨_, _, _, h3, _⟩ := Z3D h1
 exact h3
inductive Z1Y (G0 : GW) : Nat → GW → Prop
 | zero : Z1Y G0 0 G0
 | succ {k i : Nat} {G : GW} (h : Z1Y G0 k G) (e : Z1L G = some i) : Z1Y G0 (k + 1) (Z1S G i)
theorem Z1Y.wf {G0 G : GW} {k : Nat} (hw : Wf G0) (h : Z1Y G0 k G) : Wf G := by
 induction h with
 | zero => exact hw
 | succ h e ih => exact ih.step (Z3T e).1
theorem Z1Y.phi {G0 G : GW} {k : Nat} (hw : Wf G0) (h : Z1Y G0 k G) : k + phiG G ≤ phiG G0 := by
 induction h with
 | zero => omega
 | succ h e ih =>
  have := Z3S (h.wf hw) (Z3T e).1
  omega
theorem Z1Y.det {G0 G G' : GW} {k : Nat} (h : Z1Y G0 k G) (h' : Z1Y G0 k G') : G = G' := by
 induction h generalizing G' with
 | zero => cases h'; rfl
 | succ h e ih =>
  cases h' with
  | succ h2 e2 =>
   obtain rfl := ih h2
   rw [e] at e2
   cases e2
   rfl
theorem Z1Y.le {G0 G G' : GW} {k k' : Nat} (h : Z1Y G0 k G) (h' : Z1Y G0 k' G') (hn : Z1L G = none) : k' ≤ k := by
 rcases Nat.lt_or_ge k k' with hl | hl
 ·exfalso
  induction h' with
  | zero => omega
  | @succ k2 i G2 h2 e ih =>
   rcases Nat.lt_or_ge k k2 with h3 | h3
   ·exact ih h3
   obtain rfl : k = k2 := by omega
   rw [h.det h2] at hn
   rw [hn] at e
   cases e
 exact hl
theorem sumI_le {α : Type} (f : Nat → α → Nat) (c : Nat) : ∀ (L : List α) (n : Nat), (∀ i x, x ∈ L → f i x ≤ c) → sumI f L n ≤ c * L.length
 | [], _, _ => Nat.le_refl _
 | x :: L, n, h => by
  have h1 := h n x (.head _)
  have h2 := sumI_le f c L (n + 1) fun i y hy => h i y (.tail _ hy)
  show f n x + sumI f L (n + 1) ≤ c * (L.length + 1)
  rw [Nat.mul_add, Nat.mul_one]
  omega
theorem phi_le {G : GW} (hw : Wf G) : phiG G ≤ 1762 := by
 have h1 := sumI_le (fun _ => Z43) 64 G.hs 0 fun i x hx => by
  obtain ⟨j, hj, rfl⟩ := List.mem_iff_getElem.1 hx
  have := (hw.hd j _ (List.getElem?_eq_getElem hj)).al
  unfold Z43
  omega
 have h2 := sumI_le Z4j 18 G.sg 0 fun i x hx => by
  have := Z42 (i : Int)
  unfold Z4j
  split
  ·omega
  split <;> omega
 rw [hw.sg] at h2
 have := hw.n16
 unfold phiG
 omega
theorem RestD (b : Nat) (X : Gm) (hwf : Wf X.abs) (w : World) (hS : Sep w.heap.size (fps (gW b X)) w (gW b X)) :
  Z0f P 36 [ptr b] w fun r w' => ∃ (k : Nat) (Y : Gm), r = .int .i64 (k : Int) ∧ Z1Y X.abs k Y.abs ∧ Z1L Y.abs = none ∧ Z1C w w' (gW b X) (gW b Y) := by
 refine Z0o func36 rfl ntmps36 rfl ?_
 have H0 : St w w.heap.size (fps (gW b X)) (gW b X) w := St.startS hS
 refine Z03 (Z00 (Zg (Z01 (Z02 ?_))))
 refine Zk [0] ?_
 refine Z03 (Z00 (Zg (Z01 (Z02 (Z03 (Z03 (Z00 (Zm ?_))))))))
 refine Zc func63 (nextD b X hwf w (GF.of (σ := []) (by simpa using H0))) ?_
 rintro _ w1 ⟨rfl, hG⟩
 have H1 := hG _ _ _ _ H0
 simp only [Zca, Zna] at H1
 refine Zm ?_
 refine Zx (Zx ?_)
 refine Z0X H1 ta87 rfl rfl (fun b2_5 w2 H2 => ?_)
 refine Z0m H2 .head (.zero (.zero .nil)) rfl tz87 rfl rfl ZC (fun w3 H3 => ?_)
 refine Zg (Z01 (Z02 ?_))
 refine Zk [0, 3, 4, 5] ?_
 refine Z0d ?_
 refine Z0z (ι := Nat × Gm × Nat) (fun (z0 : Nat × Gm × Nat) => match z0 with | ⟨k, Y, mb⟩ => phiG Y.abs) (fun (z0 : Nat × Gm × Nat) (w' : World) => match z0 with | ⟨k, Y, mb⟩ => St w w.heap.size (fps (gW b X)) (gW b Y ++ [As.blk mb 87 [.int .i64 (((Z1L Y.abs).getD 0 : Nat) : Int), .int .i64 0]]) w' ∧ Z1Y X.abs k Y.abs) (fun (z0 : Nat × Gm × Nat) => match z0 with | ⟨k, Y, mb⟩ => [(3, .int .i64 (k : Int)), (4, ptr mb), (5, .bool (Z1L Y.abs).isSome)]) [0] (0, X, b2_5) ?_ (.cons rfl .nil) ?_ ?_
 ·exact ⟨St.perm (List.perm_middle (l₁ := [_, _, _, _]) (l₂ := [])).symm H3, .zero⟩
 ·exact (.cons rfl ZN (.cons rfl ZN (.cons rfl ZN .nil)))
 rintro ⟨k, Y, mb⟩ w4 ⟨H4, hN⟩
 show RunC P _ _ _ (_ :: _) _
 refine Z03 (Z03 (Z00 ?_))
 have hwfY := hN.wf hwf
 have hph := hN.phi hwf
 have hpl := phi_le hwf
 refine Zm (Z01 (Z02 ?_))
 refine Zk [0, 3, 4, 11] ?_
 (first | refine Z0c rfl ?_ ?_ | refine Z08 rfl ?_ ?_) <;> intro hc0
 ·refine Z0a (Z02 ?_)
  refine Zk [0, 3, 4] ?_
  refine Z03 (Z0d (Z03 (Z00 ?_)))
  obtain ⟨i0, hi0⟩ : ∃ i0, Z1L Y.abs = some i0 := Option.isSome_iff_exists.1 hc0
  obtain ⟨hmay2, hi2⟩ := Z3T hi0
  have hi0' : (Z1L Y.abs).getD 0 = i0 := by rw [hi0]; rfl
  rw [← hi0'] at hmay2 hi2
  have hi2 : (Z1L Y.abs).getD 0 < Y.hs.length := by simpa [Gm.abs] using hi2
  refine Zm ?_
  refine Z1b H4 mem4 rfl rfl underlying87 rfl tz87 rfl (.take (.take .nil)) ?_
  have H5 := St.frontL (l := [_, _, _]) H4
  simp only [Zca, Zna] at H5
  have H6 := St.frontL (l := [_, _, _]) H5
  simp only [Zca, Zna] at H6
  have H7 := St.frontL (l := [_, _, _]) H6
  simp only [Zca, Zna] at H7
  have H8 := St.frontL (l := [_, _, _]) H7
  simp only [Zca, Zna] at H8
  refine Zc func58 (moveD b Y hwfY ((Z1L Y.abs).getD 0) hi2 hmay2 0 w4 (St.rows (τ := gW b Y) H8)) ?_
  rintro _ w9 ⟨Y2, rfl, hY2, hX2⟩
  have H9 := hX2 _ _ _ _ H8
  simp only [gW, List.cons_append, List.nil_append] at H9
  refine Z01 (Z02 ?_)
  refine Zk [0, 3, 4] ?_
  refine Z00 ?_
  have hph2 : phiG Y2.abs < phiG Y.abs := by rw [hY2]; exact Z3S hwfY hmay2
  have hwf2 : Wf Y2.abs := by rw [hY2]; exact hwfY.step hmay2
  rw [hi0'] at hY2
  refine Zm ?_
  refine Z0y rfl rfl rfl rfl (Z0l ZO) ?_
  refine Zg (Z01 ?_)
  refine Z0F ?_
  refine Z02 ?_
  refine Zk [0, 3, 4] ?_
  refine Z03 (Z03 (Z00 ?_))
  refine Z1b H9 mem4 rfl rfl underlying87 rfl tz87 rfl (.take (.take .nil)) ?_
  refine Z01 (Z02 ?_)
  refine Zk [0, 3, 22] ?_
  refine Z00 ?_
  refine Z0X H9 ta87 rfl rfl (fun b8_0 w10 H10 => ?_)
  refine Z0m H10 .head (.zero (.zero .nil)) rfl tz87 rfl rfl ZC (fun w11 H11 => ?_)
  refine Z01 (Z02 ?_)
  refine Zk [0, 3, 4] ?_
  refine Z00 (Zm ?_)
  have H12 := St.frontL (l := [_, _, _, _]) H11
  simp only [Zca, Zna] at H12
  have H13 := St.frontL (l := [_, _, _, _]) H12
  simp only [Zca, Zna] at H13
  have H14 := St.frontL (l := [_, _, _, _]) H13
  simp only [Zca, Zna] at H14
  have H15 := St.frontL (l := [_, _, _, _]) H14
  simp only [Zca, Zna] at H15
  refine Zc func63 (nextD b Y2 hwf2 w11 (GF.of (σ := _) H15)) ?_
  rintro _ w16 ⟨rfl, hG⟩
  have H16 := hG _ _ _ _ H15
  simp only [Zca, Zna] at H16
  refine Zm ?_
  refine Zx (Zx ?_)
  refine Z0m H16 (.tail (.tail (.tail (.tail .head)))) (.zero (.zero .nil)) rfl tz87 rfl rfl ZC (fun w17 H17 => ?_)
  refine Zg (Z01 ?_)
  have H18 := St.del (.tail (.tail (.tail (.tail (.tail .head))))) H17
  refine Z0p (i := (k, Y, mb)) (k + 1, Y2, b8_0) ?_ ?_ (.cons rfl .nil) ?_
  ·first | omega | (simp; omega)
  ·exact ⟨H18, by rw [hY2]; exact .succ hN hi0⟩
  exact (.cons rfl ZN (.cons rfl ZN (.cons rfl ZN .nil)))
 refine Z0H ?_
 refine Z06 ?_
 refine Z06 ?_
 refine Z0h ?_
 refine Z02 ?_
 refine Zk [3] ?_
 refine Z03 (Z00 (Zm (Zg (Z01 (Z02 ?_)))))
 refine Zk [2] ?_
 refine Z0i ?_
 refine Z0e results36 rfl ?_
 refine ⟨_, rfl, ?_⟩
 have H23 := St.del (.tail (.tail (.tail (.tail .head)))) (St.front3 (St.front3 (St.front3 (St.front3 H4))))
 exact ⟨k, Y, rfl, hN, by simpa using hc0, H23.transS⟩
end Go.Proofs.YtgfkagaacdblbaaGreat.W
