/- Slices as values of their own that read as lists; owned rows likewise; contracts that bear their own frame. -/
import Derived.Test.YtgjgahmhoflgcaaGreatDoorVs
set_option linter.unusedVariables false
set_option linter.unusedSimpArgs false
namespace Go.Vc
open Go.RowKit
def IV (w : World) (v : Value) (cs : List Value) : Prop := ∃ A c, v = .slice A cs.length c ∧ cs.length ≤ c ∧ Sl w A cs
abbrev IS (w : World) (k : IntKind) (v : Value) (l : List Int) : Prop := IV w v (ints k l)
abbrev IB (w : World) (v : Value) (l : List UInt8) : Prop := IV w v (bys l)
abbrev As.ro (E : TypeId) (v : Value) (cs : List Value) : As := As.own E 1 v cs.length cs
abbrev As.ri (E : TypeId) (k : IntKind) (v : Value) (l : List Int) : As := As.ro E v (ints k l)
abbrev As.rb (E : TypeId) (v : Value) (l : List UInt8) : As := As.ro E v (bys l)
def As.iv (v : Value) (cs : List Value) : As :=
 ⟨fun k => v.ownBlock = some k, fun w => IV w v cs, fun w w' h hw => by
  obtain ⟨A, c, rfl, hc, hs⟩ := hw
  refine ⟨A, c, rfl, hc, fun j v hj => ?_⟩
  obtain ⟨ad, e, hcell⟩ := hs j v hj
  subst e
  refine ⟨ad, rfl, ?_⟩
  rw [World.cell?_of_block (w := w) (by rw [Z4a]; exact h _ rfl)]
  exact hcell⟩
section
variable {w0 w w' : World} {B : Nat} {M : Nat → Prop} {σ σ' : List As} {E : TypeId} {cs ds : List Value} {v : Value}
theorem IV.nil (w : World) : IV w (.slice none 0 0) [] := ⟨none, 0, rfl, Nat.le_refl _, Sl.nil _ _⟩
theorem IV.mono (h : IV w v cs) (hb : ∀ k, k < w.heap.size → w'.heap[k]? = w.heap[k]?) : IV w' v cs := by
 obtain ⟨A, c, e, hc, hs⟩ := h
 exact ⟨A, c, e, hc, hs.mono hb⟩
theorem St.iarg (hw : St w0 w0.heap.size Z0J σ w) (h : IV w0 v cs) : IV w v cs := h.mono fun k hk => hw.ext.block k hk (fun e => e)
theorem Own.iv (h : Own w E 1 v cs.length cs) : IV w v cs := by
 rcases h.2 with ⟨rfl, hn⟩ | ⟨g, off, cap, cur, rfl, h1, _⟩
 ·have : cs = [] := List.eq_nil_of_length_eq_zero hn
  subst this
  exact IV.nil w
 exact ⟨_, _, rfl, h1, h.sl⟩
theorem St.io (hw : St w0 B M σ w) (hm : As.ro E v cs ∈ σ) : IV w v cs := Own.iv (hw.ok hm)
theorem St.ii (hw : St w0 B M σ w) (hm : As.iv v cs ∈ σ) : IV w v cs := hw.ok hm
theorem blk_iv {g : Nat} (h : (As.blk g E cs).ok w) : IV w (.slice (some ⟨g, 0, none⟩) cs.length cs.length) cs := ⟨_, _, rfl, Nat.le_refl _, Z1M h⟩
theorem St.ibl {g : Nat} (hw : St w0 B M σ w) (hm : As.blk g E cs ∈ σ) : IV w (.slice (some ⟨g, 0, none⟩) cs.length cs.length) cs := blk_iv (hw.ok hm)
theorem IV.cut {A : Option Addr} {c l k m : Nat} (hs : Sl w A cs) (hlk : l ≤ k) (hk : k ≤ cs.length) (hkm : k ≤ m) : IV w (.slice (cutA A l m 1) (k - l) (m - l)) ((cs.take k).drop l) := by
 have hlen : ((cs.take k).drop l).length = k - l := by rw [List.length_drop, List.length_take]; omega
 refine ⟨_, _, by rw [hlen], by omega, ?_⟩
 have := hs.cut (l := l) (k := k) (m := m) (size := 1) hlk hkm
 rw [Nat.mul_one, Nat.mul_one] at this
 rw [List.drop_take]
 exact this
def Grow (w w' : World) (τ : List As) : Prop := ∀ w0 B M σ, St w0 B M σ w → St w0 B M (τ ++ σ) w'
theorem Sep.grows : ∀ {τ : List As}, Sep w.heap.size Z0J w' τ → Sep B M w' σ → B ≤ w.heap.size → (∀ A ∈ σ, ∀ k, A.fp k → k < w.heap.size) → Sep B M w' (τ ++ σ)
 | [], _, hs, _, _ => hs
 | A :: τ, ht, hs, hB, hlt => ⟨ht.1, fun k hk => ⟨.inl (by
   have := (ht.2.1 k hk).1
   simp only [Z0J, or_false] at this
   omega), (ht.2.1 k hk).2⟩, fun X hX k hk hk' => by
   rcases List.mem_append.1 hX with h | h
   ·exact ht.2.2.1 X h k hk hk'
   have h1 := hlt X h k hk'
   have h2 := (ht.2.1 k hk).1
   simp only [Z0J, or_false] at h2
   omega, Sep.grows ht.2.2.2 hs hB hlt⟩
theorem St.grows {τ : List As} (h : St w w.heap.size Z0J τ w') : Grow w w' τ := fun w0 B M σ hw =>
  ⟨hw.ext.trans (h.ext.mono hw.base fun _ _ e => e.elim), Nat.le_trans hw.base h.base,
   h.sep.grows (hw.sep.keep h.base fun A hA k hk => h.ext.block k (hw.sep.lt hA k hk).2 (fun e => e)) hw.base fun A hA k hk => (hw.sep.lt hA k hk).2⟩
theorem Grow.refl (w : World) : Grow w w [] := fun _ _ _ _ h => h
def Turn (w w' : World) (A A' : As) : Prop := ∀ w0 B M σ σ', Upd σ A A' σ' → St w0 B M σ w → St w0 B M σ' w'
theorem St.turns {A A' : As} (h : St w w.heap.size A.fp [A'] w') (hfp : ∀ k, A'.fp k → A.fp k ∨ w.heap.size ≤ k) : Turn w w' A A' := fun w0 B M σ σ' u hw =>
 hw.upd u h.ext h.sep.1 fun k hk => ⟨hfp k hk, (h.sep.2.1 k hk).2⟩
theorem St.startM {A : As} (w : World) (ok : A.ok w) (lt : ∀ k, A.fp k → k < w.heap.size) : St w w.heap.size A.fp [A] w :=
 ⟨.refl _ _ _, Nat.le_refl _, ok, fun k hk => ⟨.inr hk, lt k hk⟩, (fun _ h => nomatch h), trivial⟩
end
section
variable {P : Program} {N : Nat} {ops : Array Oper} {Q : Z26} {ρ : Env} {w w0 : World} {rest : List Oper} {d : Nat} {ty : TypeId} {pos : String} {af : Array Edge} {g : Option (Nat × Bool)}
  {B : Nat} {M : Nat → Prop} {σ σ' : List As} {E : TypeId} {cs : List Value} {v : Value}
theorem v_len {x : Operand} {T e : TypeId} {wx : World} (hg : Z0t ops ρ g = true) (hN : Nat.blt d N = true) (hT : P.underlying T = some (.slice e)) (hx : Z0g ρ x = some v) (h : IV wx v cs) (n : RunL P N ops Q rest ((d, .int .i64 (cs.length : Int)) :: ρ) w) : RunL P N ops Q (⟨some d, .call ⟨.builtin .len, #[x], #[T]⟩, ty, pos, af, g⟩ :: rest) ρ w := by
 obtain ⟨A, c, rfl, hc, hs⟩ := h
 exact l_len hg hN hT hx n
theorem Z0u {x : Operand} {T e : TypeId} {wx : World} {k : IntKind} {l : List Int} (hg : Z0t ops ρ g = true) (hN : Nat.blt d N = true) (hT : P.underlying T = some (.slice e)) (hx : Z0g ρ x = some v) (h : IS wx k v l) (n : RunL P N ops Q rest ((d, .int .i64 (l.length : Int)) :: ρ) w) : RunL P N ops Q (⟨some d, .call ⟨.builtin .len, #[x], #[T]⟩, ty, pos, af, g⟩ :: rest) ρ w :=
 v_len hg hN hT hx h (by simpa using n)
theorem Z4W {x : Operand} {T e : TypeId} {wx : World} {l : List UInt8} (hg : Z0t ops ρ g = true) (hN : Nat.blt d N = true) (hT : P.underlying T = some (.slice e)) (hx : Z0g ρ x = some v) (h : IB wx v l) (n : RunL P N ops Q rest ((d, .int .i64 (l.length : Int)) :: ρ) w) : RunL P N ops Q (⟨some d, .call ⟨.builtin .len, #[x], #[T]⟩, ty, pos, af, g⟩ :: rest) ρ w :=
 v_len hg hN hT hx h (by simpa using n)
theorem v_get {x ix : Operand} {k : IntKind} {i : Int} {T e t : TypeId} {u : TypeDesc} {y : Value} {d' : Nat} {ty' : TypeId} {pos' : String} {af' : Array Edge} {g' : Option (Nat × Bool)}
  (hg : Z0t ops ρ g = true) (hg' : Z0t ops ((d, undef) :: ρ) g' = true) (hN : Nat.blt d N = true) (hN' : Nat.blt d' N = true) (hT : P.underlying T = some (.slice e)) (hsz : (P.info? e).map (·.size) = some 1) (hu : P.underlying t = some u) (hp : Z1V u = true)
  (hx : Z0g ρ x = some v) (hi : Z0g ρ ix = some (.int k i)) (h : IV w v cs) (hb : 0 ≤ i ∧ i < cs.length) (hv : cs[i.toNat]? = some y)
  (n : RunL P N ops Q rest ((d', y) :: ρ) w) (hd : (ρ.get d).isNone = true) : RunL P N ops Q (⟨some d, .indexAddr T x ix, ty, pos, af, g⟩ :: ⟨some d', .load t (.tmp d), ty', pos', af', g'⟩ :: rest) ρ w := by
 obtain ⟨A, c, rfl, hc, hs⟩ := h
 have hg2 : Z0t ops ((d, .pointer (A.map (·.add i.toNat))) :: ρ) g' = true := by
  cases g' with
  | none => rfl
  | some p =>
   obtain ⟨j, t⟩ := p
   simp only [Z0t] at hg' ⊢
   cases hdj : (ops[j]?).bind (·.dst) with
   | none => rw [hdj] at hg'; simp at hg'
   | some s =>
    rw [hdj] at hg'
    simp only [Option.bind_some, Env.get_cons] at hg' ⊢
    by_cases e : d = s
    ·rw [if_pos e] at hg'; simp [undef] at hg'
    rw [if_neg e] at hg' ⊢; exact hg'
 refine l_get hg hg2 hN hN' hT hsz hu hp hx hi hb hs rfl hv ?_
 intro a ha
 refine n a ⟨ha.1, ha.2.1, fun s u hs => ha.2.2 s u ?_⟩
 rw [Env.get_cons] at hs ⊢
 split at hs
 ·rename_i e; rw [if_pos e]; exact hs
 rename_i e
 rw [if_neg e, Env.get_cons]
 split
 ·rename_i e2; subst e2; rw [hs] at hd; cases hd
 exact hs
theorem v_geti {x ix : Operand} {k kk : IntKind} {i : Int} {T e t : TypeId} {l : List Int} {d' : Nat} {ty' : TypeId} {pos' : String} {af' : Array Edge} {g' : Option (Nat × Bool)}
  (hg : Z0t ops ρ g = true) (hg' : Z0t ops ((d, undef) :: ρ) g' = true) (hN : Nat.blt d N = true) (hN' : Nat.blt d' N = true) (hT : P.underlying T = some (.slice e)) (hsz : (P.info? e).map (·.size) = some 1) (hu : P.underlying t = some (.int kk))
  (hx : Z0g ρ x = some v) (hi : Z0g ρ ix = some (.int k i)) (h : IS w kk v l) (hb : 0 ≤ i ∧ i < l.length) (hd : (ρ.get d).isNone = true)
  (n : RunL P N ops Q rest ((d', .int kk (l.getD i.toNat 0)) :: ρ) w) : RunL P N ops Q (⟨some d, .indexAddr T x ix, ty, pos, af, g⟩ :: ⟨some d', .load t (.tmp d), ty', pos', af', g'⟩ :: rest) ρ w :=
 v_get hg hg' hN hN' hT hsz hu rfl hx hi h (by simpa using hb) (Z4J kk l _ ZO) n hd
theorem v_getb {x ix : Operand} {k : IntKind} {i : Int} {T e t : TypeId} {l : List UInt8} {d' : Nat} {ty' : TypeId} {pos' : String} {af' : Array Edge} {g' : Option (Nat × Bool)}
  (hg : Z0t ops ρ g = true) (hg' : Z0t ops ((d, undef) :: ρ) g' = true) (hN : Nat.blt d N = true) (hN' : Nat.blt d' N = true) (hT : P.underlying T = some (.slice e)) (hsz : (P.info? e).map (·.size) = some 1) (hu : P.underlying t = some (.int .u8))
  (hx : Z0g ρ x = some v) (hi : Z0g ρ ix = some (.int k i)) (h : IB w v l) (hb : 0 ≤ i ∧ i < l.length) (hd : (ρ.get d).isNone = true)
  (n : RunL P N ops Q rest ((d', .int .u8 ((l.getD i.toNat 0).toNat : Int)) :: ρ) w) : RunL P N ops Q (⟨some d, .indexAddr T x ix, ty, pos, af, g⟩ :: ⟨some d', .load t (.tmp d), ty', pos', af', g'⟩ :: rest) ρ w :=
 v_get hg hg' hN hN' hT hsz hu rfl hx hi h (by simpa using hb) (Z77 l _ ZO) n hd
theorem Z5B {x : Operand} {lo hi mx : Option Operand} {T e : TypeId} {l h : Nat} {rl rh rm : Option Int} {wx : World} (hg : Z0t ops ρ g = true) (hN : Nat.blt d N = true) (hT : P.underlying T = some (.slice e)) (hsz : (P.info? e).map (·.size) = some 1)
  (hx : Z0g ρ x = some v) (hl : Z2j ρ lo = some rl) (hh : Z2j ρ hi = some rh) (hm : Z2j ρ mx = some rm) (hv : IV wx v cs) (el : (rl.getD 0) = (l : Int)) (eh : (rh.getD (cs.length : Int)) = (h : Int)) (em : rm = none ∨ rm = some (h : Int)) (hx3 : rm.isSome = true → rh.isSome = true) (hlh : l ≤ h) (hh' : h ≤ cs.length)
  (n : ∀ v', IV wx v' ((cs.take h).drop l) → v'.ownBlock = v.ownBlock → RunL P N ops Q rest ((d, v') :: ρ) w) : RunL P N ops Q (⟨some d, .slice T x lo hi mx, ty, pos, af, g⟩ :: rest) ρ w := by
 obtain ⟨A, c, rfl, hc, hs⟩ := hv
 have hblk : ∀ m k n : Nat, (Value.slice (cutA A l m 1) k n).ownBlock = (Value.slice A cs.length c).ownBlock := by
  intro m k n
  unfold cutA
  split
  ·cases A <;> rfl
  cases A
  ·rfl
  simp [Value.ownBlock, Z4a]
 rcases em with rfl | rfl
 ·exact Z2d (mm := c) hg hN hT hsz hx hl hh hm el eh rfl (by simp) hlh ZO (Nat.le_refl _) (n _ (IV.cut (c := c) hs hlh hh' ZO) (hblk _ _ _))
 exact Z2d (mm := h) hg hN hT hsz hx hl hh hm el eh rfl (by simpa using hx3) hlh (Nat.le_refl _) ZO (n _ (IV.cut (c := c) hs hlh hh' (Nat.le_refl _)) (hblk _ _ _))
theorem Z2o {x ix : Operand} {k : IntKind} {i : Int} {j : Nat} {T e : TypeId} (hg : Z0t ops ρ g = true) (hN : Nat.blt d N = true) (hT : P.underlying T = some (.slice e)) (hsz : (P.info? e).map (·.size) = some 1)
  (hx : Z0g ρ x = some v) (hi : Z0g ρ ix = some (.int k i)) (h : IV w v cs) (hij : i = (j : Int)) (hb : j < cs.length)
  (n : ∀ A c, v = .slice A cs.length c → RunL P N ops Q rest ((d, .pointer (A.map (·.add j))) :: ρ) w) : RunL P N ops Q (⟨some d, .indexAddr T x ix, ty, pos, af, g⟩ :: rest) ρ w := by
 obtain ⟨A, c, rfl, hc, hs⟩ := h
 subst hij
 exact l_idx hg hN hT hsz hx hi ZO hs rfl (n A c rfl)
theorem v_store {Q : Post} {p y : Operand} {A : Option Addr} {j c : Nat} {t : TypeId} {x : Value} (hw : St w0 B M σ w) (u : Upd σ (As.ro E v cs) (As.ro E v (cs.set j x)) σ') (hv : v = .slice A cs.length c)
  (hg : Z0t ops ρ g = true) (hsz : (P.info? t).map (·.size) = some 1) (hx : Z0g ρ p = some (.pointer (A.map (·.add j)))) (hy : Z0g ρ y = some x) (hj : j < cs.length) (h1 : x.oneCell' = true)
  (n : ∀ w', St w0 B M σ' w' → RunL P N ops ⟨false, Q⟩ rest ρ w') : RunL P N ops ⟨false, Q⟩ (⟨none, .store t p y, ty, pos, af, g⟩ :: rest) ρ w := by
 subst hv
 unfold As.ro at u
 rw [List.length_set] at u
 exact l_store_own hw u hg hsz hx hy hj h1 n
theorem Z1w {Q : Post} {p y : Operand} {A : Option Addr} {j c : Nat} {t : TypeId} {k : IntKind} {l : List Int} {x : Int} (hw : St w0 B M σ w) (u : Upd σ (As.ri E k v l) (As.ri E k v (l.set j x)) σ') (hv : v = .slice A (ints k l).length c)
  (hg : Z0t ops ρ g = true) (hsz : (P.info? t).map (·.size) = some 1) (hx : Z0g ρ p = some (.pointer (A.map (·.add j)))) (hy : Z0g ρ y = some (.int k x)) (hj : j < l.length)
  (n : ∀ w', St w0 B M σ' w' → RunL P N ops ⟨false, Q⟩ rest ρ w') : RunL P N ops ⟨false, Q⟩ (⟨none, .store t p y, ty, pos, af, g⟩ :: rest) ρ w := by
 unfold As.ri at u
 rw [← ints_set] at u
 exact v_store hw u hv hg hsz hx hy (by simpa using hj) rfl n
theorem v_storeb {Q : Post} {p y : Operand} {A : Option Addr} {j c : Nat} {t : TypeId} {l : List UInt8} {x : UInt8} {i : Int} (hw : St w0 B M σ w) (u : Upd σ (As.rb E v l) (As.rb E v (l.set j x)) σ') (hv : v = .slice A (bys l).length c)
  (hg : Z0t ops ρ g = true) (hsz : (P.info? t).map (·.size) = some 1) (hx : Z0g ρ p = some (.pointer (A.map (·.add j)))) (hy : Z0g ρ y = some (.int .u8 i)) (hi : i = (x.toNat : Int)) (hj : j < l.length)
  (n : ∀ w', St w0 B M σ' w' → RunL P N ops ⟨false, Q⟩ rest ρ w') : RunL P N ops ⟨false, Q⟩ (⟨none, .store t p y, ty, pos, af, g⟩ :: rest) ρ w := by
 subst hi
 unfold As.rb at u
 rw [← bys_set] at u
 exact v_store hw u hv hg hsz hx hy (by simpa using hj) rfl n
theorem Z45 {Q : Post} {s x : Operand} {t e : TypeId} {z y : Value} {bytes : Nat} {news : List Value} (hw : St w0 B M (As.ro e v cs :: σ) w) (hg : Z0t ops ρ g = true) (hN : Nat.blt d N = true) (ht : P.underlying t = some (.slice e)) (hi : (P.info? e).map (fun i => (i.zero, i.size, i.bytes)) = some (some z, 1, bytes)) (hzs : z.cells.size = 1)
  (hs : Z0g ρ s = some v) (hx : Z0g ρ x = some y) (hy : IV w y news) (h1 : ∀ u ∈ news, u.oneCell' = true) (hbytes : (cs.length + news.length) * bytes ≤ 140737488355328) (h63 : cs.length + news.length ≤ 9223372036854775807)
  (nx : ∀ v' w', St w0 B M (As.ro e v' (cs ++ news) :: σ) w' → RunL P N ops ⟨false, Q⟩ rest ((d, v') :: ρ) w') : RunL P N ops ⟨false, Q⟩ (⟨some d, .call ⟨.builtin .append, #[s, x], #[t, t]⟩, ty, pos, af, g⟩ :: rest) ρ w := by
 obtain ⟨A, c, rfl, hc, hsl⟩ := hy
 refine l_append0 hw hg hN ht hi hzs hs hx (by simp) hsl (fun h => ?_) h1 hbytes h63 (fun A' c' w' hw' => nx _ w' (hw'.cast (by unfold As.ro; rw [List.length_append])))
 cases hn : news with
 | nil => rfl
 | cons a l =>
  obtain ⟨ad, e, _⟩ := hsl 0 a (by rw [hn]; rfl)
  rw [h] at e; cases e
theorem Z5K {Q : Post} {s x : Operand} {t e : TypeId} {z y : Value} {bytes : Nat} {news : List Value} (hw : St w0 B M σ w) (hg : Z0t ops ρ g = true) (hN : Nat.blt d N = true) (ht : P.underlying t = some (.slice e)) (hi : (P.info? e).map (fun i => (i.zero, i.size, i.bytes)) = some (some z, 1, bytes)) (hzs : z.cells.size = 1)
  (hs : Z0g ρ s = some (.slice none 0 0)) (hx : Z0g ρ x = some y) (hy : IV w y news) (h1 : ∀ u ∈ news, u.oneCell' = true) (hbytes : news.length * bytes ≤ 140737488355328) (h63 : news.length ≤ 9223372036854775807)
  (nx : ∀ v' w', St w0 B M (As.ro e v' news :: σ) w' → RunL P N ops ⟨false, Q⟩ rest ((d, v') :: ρ) w') : RunL P N ops ⟨false, Q⟩ (⟨some d, .call ⟨.builtin .append, #[s, x], #[t, t]⟩, ty, pos, af, g⟩ :: rest) ρ w := by
 obtain ⟨A, c, rfl, hc, hsl⟩ := hy
 refine l_append_nil hw hg hN ht hi hzs hs hx (by simp) hsl (fun h => ?_) h1 hbytes h63 (fun A' c' w' hw' => nx _ w' hw')
 cases hn : news with
 | nil => rfl
 | cons a l =>
  obtain ⟨ad, e, _⟩ := hsl 0 a (by rw [hn]; rfl)
  rw [h] at e; cases e
theorem St.nil (hw : St w0 B M σ w) (E : TypeId) : St w0 B M (As.ro E (.slice none 0 0) [] :: σ) w :=
 hw.grow (.refl _ _ _) _ (Own.nil w E 1) fun k hk => by simp [As.own, Value.ownBlock] at hk
theorem ints_snoc (k : IntKind) (l : List Int) (x : Int) : ints k l ++ [.int k x] = ints k (l ++ [x]) := by simp [ints]
theorem bys_snoc (l : List UInt8) (x : UInt8) : bys l ++ [.int .u8 (x.toNat : Int)] = bys (l ++ [x]) := by simp [bys]
theorem Z46 {Q : Post} {s x : Operand} {t e E' : TypeId} {z : Value} {bytes b : Nat} {news : List Value} {m : Nat} (hw : St w0 B M (As.blk b E' news :: As.ro e v cs :: σ) w) (hg : Z0t ops ρ g = true) (hN : Nat.blt d N = true) (ht : P.underlying t = some (.slice e)) (hi : (P.info? e).map (fun i => (i.zero, i.size, i.bytes)) = some (some z, 1, bytes)) (hzs : z.cells.size = 1)
  (hs : Z0g ρ s = some v) (hx : Z0g ρ x = some (.slice (some ⟨b, 0, none⟩) m m)) (hm : news.length = m) (h1 : ∀ u ∈ news, u.oneCell' = true) (hbytes : (cs.length + news.length) * bytes ≤ 140737488355328) (h63 : cs.length + news.length ≤ 9223372036854775807)
  (nx : ∀ v' w', St w0 B M (As.ro e v' (cs ++ news) :: σ) w' → RunL P N ops ⟨false, Q⟩ rest ((d, v') :: ρ) w') : RunL P N ops ⟨false, Q⟩ (⟨some d, .call ⟨.builtin .append, #[s, x], #[t, t]⟩, ty, pos, af, g⟩ :: rest) ρ w := by
 subst hm
 exact Z45 hw.forget hg hN ht hi hzs hs hx (hw.ibl mem0) h1 hbytes h63 nx
theorem Z1A {Q : Post} {sl sc : Operand} {t e : TypeId} {z : Value} {bytes m c : Nat} {k k' : IntKind} {im ic : Int} (hw : St w0 B M σ w) (hg : Z0t ops ρ g = true) (hN : Nat.blt d N = true) (ht : P.underlying t = some (.slice e)) (hi : (P.info? e).map (fun i => (i.zero, i.size, i.bytes)) = some (some z, 1, bytes)) (hzs : z.cells = #[z])
  (hl : Z0g ρ sl = some (.int k im)) (hc : Z0g ρ sc = some (.int k' ic)) (him : im = (m : Int)) (hic : ic = (c : Int)) (hmc : m ≤ c) (hbytes : bytes * c ≤ 281474976710656) (h63 : c ≤ 9223372036854775807)
  (n : ∀ v' w', St w0 B M (As.ro e v' (List.replicate m z) :: σ) w' → RunL P N ops ⟨false, Q⟩ rest ((d, v') :: ρ) w') : RunL P N ops ⟨false, Q⟩ (⟨some d, .makeSlice t sl sc, ty, pos, af, g⟩ :: rest) ρ w :=
 l_make hw hg hN ht hi hzs hl hc him hic hmc hbytes h63 fun b w' hw' => n _ w' (hw'.cast (by unfold As.ro; rw [List.length_replicate]))
theorem Z14 (k : IntKind) (m : Nat) (x : Int) : List.replicate m (.int k x) = ints k (List.replicate m x) := by simp [ints]
theorem Z6k {x : Operand} {S T e : TypeId} {l : List UInt8} (hg : Z0t ops ρ g = true) (hN : Nat.blt d N = true) (hS : P.underlying S = some (.slice e)) (he : P.underlying e = some (.int .u8)) (hT : P.underlying T = some .string)
  (hx : Z0g ρ x = some v) (hs : IB w v l) (n : RunL P N ops Q rest ((d, str l) :: ρ) w) : RunL P N ops Q (⟨some d, .convert S T x, ty, pos, af, g⟩ :: rest) ρ w := by
 obtain ⟨A, c, rfl, hc, hsl⟩ := hs
 rw [List.length_map] at hx
 exact l_tostr hg hN hS he hT hx hsl n
theorem v_tobytes {Q : Post} {x : Operand} {S T e : TypeId} {u : TypeDesc} {l : List UInt8} (hw : St w0 B M σ w) (hg : Z0t ops ρ g = true) (hN : Nat.blt d N = true) (hS : P.underlying S = some u) (hT : P.underlying T = some (.slice e)) (he : P.underlying e = some (.int .u8))
  (hx : Z0g ρ x = some (str l)) (n : ∀ v' w', St w0 B M (As.iv v' (bys l) :: σ) w' → RunL P N ops ⟨false, Q⟩ rest ((d, v') :: ρ) w') : RunL P N ops ⟨false, Q⟩ (⟨some d, .convert S T x, ty, pos, af, g⟩ :: rest) ρ w := by
 have hr := Lib.run_convert_string_bytes (P := P) w S T e ⟨l.toArray⟩ hS hT he
 have hsz : (⟨l.toArray⟩ : ByteArray).size = l.length := by simp [ByteArray.size]
 rw [hsz] at hr
 have hx' : Ext w.heap.size Z0J w (Lib.bytesWorld w e ⟨l.toArray⟩) := ⟨rfl, rfl, rfl, by rw [Lib.bytesWorld_size]; exact Nat.le_succ _, fun k hk _ => Lib.bytesWorld_at_old w e _ k hk⟩
 refine Z2k (fun h => by cases h) hg rfl hN (fun a ha => by simp [execOp, ha.eval hx, hr]) (n (.slice (some ⟨w.heap.size, 0, none⟩) l.length (grownCap w l.length 0 e)) (Lib.bytesWorld w e ⟨l.toArray⟩) (hw.grow hx' _ ?_ fun k hk => ?_))
 ·refine ⟨_, _, by rw [List.length_map], by rw [List.length_map]; exact grownCap_ge w _ _ e, ?_⟩
  intro j v hj
  refine ⟨_, rfl, ?_⟩
  have hlt : j < l.length := by simpa [bys] using (List.getElem?_eq_some_iff.1 hj).1
  rw [Z2p, Nat.zero_add, Lib.bytesWorld_cell w e _ j (by rw [hsz]; exact hlt)]
  rw [Z77 l j hlt] at hj
  simpa using hj
 have : w.heap.size = k := by simpa [As.iv, Value.ownBlock] using hk
 subst this
 exact ⟨Nat.le_refl _, by rw [Lib.bytesWorld_size]; exact Nat.lt_succ_self _⟩
def Rg (lo hi : Int) (l : List Int) : Prop := ∀ x ∈ l, lo ≤ x ∧ x ≤ hi
theorem Rg.get {lo hi : Int} {l : List Int} (h : Rg lo hi l) {j : Nat} (hj : j < l.length) : lo ≤ l.getD j 0 ∧ l.getD j 0 ≤ hi := by
 have : l.getD j 0 = l[j] := by simp [List.getD, hj]
 rw [this]
 exact h _ (List.getElem_mem hj)
theorem Z0T {x ix : Operand} {k kk : IntKind} {i lo hi : Int} {j : Nat} {T e t : TypeId} {l : List Int} {d' : Nat} {ty' : TypeId} {pos' : String} {af' : Array Edge} {g' : Option (Nat × Bool)}
  (hg : Z0t ops ρ g = true) (hg' : Z0t ops ((d, undef) :: ρ) g' = true) (hN : Nat.blt d N = true) (hN' : Nat.blt d' N = true) (hT : P.underlying T = some (.slice e)) (hsz : (P.info? e).map (·.size) = some 1) (hu : P.underlying t = some (.int kk))
  (hx : Z0g ρ x = some v) (hi' : Z0g ρ ix = some (.int k i)) (h : IS w kk v l) (hR : Rg lo hi l) (hd : (ρ.get d).isNone = true) (hij : i = (j : Int)) (hb : j < l.length)
  (n : lo ≤ l.getD j 0 ∧ l.getD j 0 ≤ hi → RunL P N ops Q rest ((d', .int kk (l.getD j 0)) :: ρ) w) : RunL P N ops Q (⟨some d, .indexAddr T x ix, ty, pos, af, g⟩ :: ⟨some d', .load t (.tmp d), ty', pos', af', g'⟩ :: rest) ρ w := by
 subst hij
 exact v_geti hg hg' hN hN' hT hsz hu hx hi' h ZO hd (n (hR.get hb))
theorem Z4Z {x ix : Operand} {k : IntKind} {i : Int} {j : Nat} {T e t : TypeId} {l : List UInt8} {d' : Nat} {ty' : TypeId} {pos' : String} {af' : Array Edge} {g' : Option (Nat × Bool)}
  (hg : Z0t ops ρ g = true) (hg' : Z0t ops ((d, undef) :: ρ) g' = true) (hN : Nat.blt d N = true) (hN' : Nat.blt d' N = true) (hT : P.underlying T = some (.slice e)) (hsz : (P.info? e).map (·.size) = some 1) (hu : P.underlying t = some (.int .u8))
  (hx : Z0g ρ x = some v) (hi : Z0g ρ ix = some (.int k i)) (h : IB w v l) (hd : (ρ.get d).isNone = true) (hij : i = (j : Int)) (hb : j < l.length)
  (n : (0 : Int) ≤ (l.getD j 0).toNat ∧ ((l.getD j 0).toNat : Int) ≤ 255 → RunL P N ops Q rest ((d', .int .u8 ((l.getD j 0).toNat : Int)) :: ρ) w) : RunL P N ops Q (⟨some d, .indexAddr T x ix, ty, pos, af, g⟩ :: ⟨some d', .load t (.tmp d), ty', pos', af', g'⟩ :: rest) ρ w := by
 subst hij
 exact v_getb hg hg' hN hN' hT hsz hu hx hi h ZO hd (n (by have := UInt8.toNat_lt (l.getD j 0); omega))
theorem Z6m {x ix : Operand} {l : List UInt8} {k : IntKind} {i : Int} {j : Nat} {T : TypeId} (hg : Z0t ops ρ g = true) (hN : Nat.blt d N = true) (hT : P.underlying T = some .string) (hx : Z0g ρ x = some (str l)) (hi : Z0g ρ ix = some (.int k i)) (hij : i = (j : Int)) (hb : j < l.length)
  (n : (0 : Int) ≤ (l.getD j 0).toNat ∧ ((l.getD j 0).toNat : Int) ≤ 255 → RunL P N ops Q rest ((d, .int .u8 ((l.getD j 0).toNat : Int)) :: ρ) w) : RunL P N ops Q (⟨some d, .index T x ix, ty, pos, af, g⟩ :: rest) ρ w := by
 subst hij
 exact l_gets hg hN hT hx hi ZO (n (by have := UInt8.toNat_lt (l.getD j 0); omega))
def Stays (N : Nat) (ρ : Env) (w : World) (t : Nat) (q : Prop) [Decidable q] : Post := fun e a w' => e = .normal ∧ w' = w ∧ Fits N ((t, .bool (decide q)) :: ρ) a
def skips (ops : Array Oper) (s : Nat) (want : Bool) : List Nat → List Oper → Bool
 | _, [] => true
 | ds, o :: l => (match o.guard, o.dst with
  | some (j, t), some d => (match (ops[j]?).bind (·.dst) with
   | some r => (Nat.beq r s && (t == want)) || ds.contains r
   | none => false) && skips ops s want (d :: ds) l
  | _, _ => false)
theorem ZT {p : Prop} [Decidable p] (h : p) : Value.bool true = .bool (decide p) := congrArg Value.bool (decide_eq_true h).symm
theorem ZF {p : Prop} [Decidable p] (h : ¬ p) : Value.bool false = .bool (decide p) := congrArg Value.bool (decide_eq_false h).symm
theorem Z0O {t : Nat} {q : Prop} [Decidable q] {ρ' : Env} (ht : ρ'.get t = some (.bool (decide q))) (hc : Z2l ρ' ρ) : RunE N .normal (Stays N ρ w t q) ρ' w := fun a ha =>
 ⟨rfl, rfl, ha.covers (.cons ht rfl hc)⟩
theorem Z3F {t : Nat} {q : Prop} [Decidable q] {l2 : List Oper} {Q' : Act → Prop} (h2 : ∀ a, Fits N ((t, .bool (decide q)) :: ρ) a → wpStill P ops w Q' l2 a) : ∀ (l : List Oper) (a : Act), wpStill P ops w (fun a' => Stays N ρ w t q .normal a' w) l a → wpStill P ops w Q' (l ++ l2) a
 | [], a, h => h2 a h.2.2
 | o :: l, a, h => by
  rw [List.cons_append]
  unfold wpStill at h ⊢
  split
  ·rename_i hw
   rw [if_pos hw] at h
   exact Oper.still_mono (fun a' h' => Z3F h2 l a' h') h
  rename_i hw
  rw [if_neg hw] at h
  exact Z3F h2 l _ h
theorem Z2c {Q : Post} {t : Nat} {q : Prop} [Decidable q] {l2 : List Oper} (h2 : ∀ a, Fits N ((t, .bool (decide q)) :: ρ) a → wpList P ops Q l2 a w) : ∀ (l : List Oper) (a : Act) (w' : World), wpList P ops (Stays N ρ w t q) l a w' → wpList P ops Q (l ++ l2) a w'
 | [], a, w', h => by obtain ⟨_, rfl, hf⟩ := h; exact h2 a hf
 | o :: l, a, w', h => by
  rw [List.cons_append]
  unfold wpList at h ⊢
  split
  ·rename_i hw
   rw [if_pos hw] at h
   rcases h with h | ⟨_, ⟨a', w'', hx, _⟩⟩
   ·refine .inl ?_
    unfold Oper.wp at h ⊢
    revert h
    generalize (execOp a.eval o).run P w' = r
    intro h
    match r, h with
    | .ok (.value v) w', h => exact Z2c h2 l _ _ h
    | .ok .skip w', h => exact Z2c h2 l _ _ h
    | .ok (.defer d) w', h => exact Z2c h2 l _ _ h
    | .ok (.enter f args) w', h =>
     refine Calls.mono h fun e w'' hr => ?_
     match e, hr with
     | .returned v, hr => exact Z2c h2 l _ _ hr
     | .panicked ch, hr => exact absurd hr.1 (by simp)
     | .outgrown, ⟨_, _, hr⟩ => exact absurd hr.1 (by simp)
    | .ok (.row row args) w', h => exact Rows.mono h fun v w'' hr => Z2c h2 l _ _ hr
    | .halt (.panic v) w', h => exact absurd h.1 (by simp)
   cases hx
  rename_i hw
  rw [if_neg hw] at h
  exact Z2c h2 l _ _ h
theorem lst_then {t : Nat} {q : Prop} [Decidable q] {l2 : List Oper} (h2 : ∀ a, Fits N ((t, .bool (decide q)) :: ρ) a → lst P ops Q l2 a w) (l : List Oper) (a : Act) (h : lst P ops ⟨Q.still, Stays N ρ w t q⟩ l a w) : lst P ops Q (l ++ l2) a w := by
 unfold lst at h2 h ⊢
 cases hs : Q.still with
 | false => simp only [hs, cond_false] at h2 h ⊢; exact Z2c h2 l a w h
 | true => simp only [hs, cond_true] at h2 h ⊢; exact Z3F h2 l a h
def Z4n (ρ : Env) (l : List Oper) : Bool := l.all fun o => match o.dst with | some d => (ρ.get d).isNone | none => false
theorem Fits.undef_ {a : Act} (ha : Fits N ρ a) {d : Nat} (hd : (ρ.get d).isNone = true) : Fits N ρ (a.put (some d) undef) :=
 ⟨ha.1, by simpa [Act.put] using ha.2.1, fun s v hs => by
  have hne : d ≠ s := fun e => by subst e; rw [hs] at hd; cases hd
  simp [Act.put, Array.getElem?_setIfInBounds, hne, ha.2.2 s v hs]⟩
theorem Z2S {s : Nat} {want b : Bool} (hb : b ≠ want) {l2 : List Oper} (h2 : ∀ a, Fits N ρ a → lst P ops Q l2 a w) (hs : ρ.get s = some (.bool b)) : ∀ (l : List Oper) (ds : List Nat) (a : Act), skips ops s want ds l = true → Z4n ρ l = true → Fits N ρ a →
  (∀ d ∈ ds, d < N → a.tmps[d]? = some undef) → lst P ops Q (l ++ l2) a w
 | [], _, a, _, _, ha, _ => h2 a ha
 | o :: l, ds, a, hk, hf, ha, hu => by
  rw [List.cons_append]
  simp only [skips] at hk
  cases hg : o.guard with
  | none => rw [hg] at hk; simp at hk
  | some jt =>
   obtain ⟨j, t⟩ := jt
   cases hd : o.dst with
   | none => rw [hg, hd] at hk; simp at hk
   | some d =>
    rw [hg, hd] at hk
    simp only [Bool.and_eq_true] at hk
    obtain ⟨hk1, hk2⟩ := hk
    simp only [Z4n, List.all_cons, hd, Bool.and_eq_true] at hf
    obtain ⟨hf1, hf2⟩ := hf
    cases hr : (ops[j]?).bind (·.dst) with
    | none => rw [hr] at hk1; simp at hk1
    | some r =>
     rw [hr] at hk1
     simp only [Bool.or_eq_true, Bool.and_eq_true] at hk1
     have hw : Region.wanted o (yielded ops a.tmps) = false := by
      unfold Region.wanted
      rw [hg]
      simp only [yielded, hr, Option.bind_some]
      rcases hk1 with ⟨h1, h3⟩ | h1
      ·have : r = s := Nat.eq_of_beq_eq_true h1
       subst this
       rw [ha.2.2 _ _ hs]
       have : t = want := by simpa using h3
       subst this
       simpa using hb
      have hm : r ∈ ds := by simpa using h1
      rcases Nat.lt_or_ge r N with hlt | hge
      ·rw [hu r hm hlt]; rfl
      rw [Array.getElem?_eq_none (by rw [ha.2.1]; exact hge)]; rfl
     refine lst_skip hw ?_
     rw [hd]
     refine Z2S hb h2 hs l (d :: ds) _ hk2 hf2 (ha.undef_ hf1) fun x hx hlt => ?_
     simp only [Act.put, Array.getElem?_setIfInBounds]
     rcases List.mem_cons.1 hx with rfl | hx
     ·rw [if_pos rfl, if_pos (by rw [ha.2.1]; exact hlt)]
     split
     ·rw [if_pos (by rw [ha.2.1]; omega)]
     exact hu x hx hlt
theorem Fits.front {a : Act} (ha : Fits N ρ a) {s : Nat} {v : Value} (hv : ρ.get s = some v) : Fits N ((s, v) :: ρ) a :=
 ⟨ha.1, ha.2.1, fun t u ht => by
  rw [Env.get_cons] at ht
  split at ht
  ·rename_i e; subst e; cases ht; exact ha.2.2 _ _ hv
  exact ha.2.2 t u ht⟩
theorem Z47 (m : Nat) (ks : List Nat) {s t dd : Nat} {p q : Prop} {_ : Decidable p} {_ : Decidable q} {l : List Oper} {ρk : Env} (hl : l.drop m = ⟨some dd, .pick (.tmp s) (.tmp t) (.const (.bool false)), ty, pos, af, g⟩ :: rest) (hs : ρ.get s = some (.bool (decide p))) (hk : Keep ρ (s :: ks) ρk)
  (hN : Nat.blt dd N = true) (hg : Z0t ops ρk g = true) (hg' : ∀ b, Z0t ops ((t, .bool b) :: ρk) g = true) (hsk : skips ops s true [] (l.take m) = true) (hf : Z4n ρk (l.take m) = true) (ht : (ρk.get t).isNone = true)
  (h1 : p → RunL P N ops ⟨Q.still, Stays N ρk w t q⟩ (l.take m) ((s, .bool true) :: ρ) w) (n : RunL P N ops Q rest ((dd, .bool (decide (p ∧ q))) :: ρk) w) : RunL P N ops Q l ρ w := fun a ha => by
 have hsk' : ρk.get s = some (.bool (decide p)) := by cases hk with | cons h _ => rw [hs] at h; cases h; simp [Env.get]
 rw [← List.take_append_drop m l, hl]
 by_cases hp : p
 ·refine lst_then (ρ := ρk) (t := t) (q := q) (w := w) (fun a' ha' => ?_) _ a (h1 hp a (ha.front (by rw [hs]; simp [hp])))
  exact Z1l (w := w) (ρ := (t, .bool (decide q)) :: ρk) (hg' _) hN (show Z0g ((t, .bool (decide q)) :: ρk) (.tmp s) = some (.bool true) by
    simp only [Z0g, Env.get_cons]
    rw [if_neg (fun e => by subst e; rw [hsk'] at ht; cases ht), hsk']; simp [hp]) (show Z0g ((t, .bool (decide q)) :: ρk) (.tmp t) = some (.bool (decide q)) by simp [Z0g, Env.get]) (n := fun a'' ha'' => n a'' ⟨ha''.1, ha''.2.1, fun x v hx => ha''.2.2 x v (by
     rw [Env.get_cons] at hx ⊢
     split at hx
     ·rename_i e; rw [if_pos e]; simpa [hp] using hx
     rename_i e; rw [if_neg e, Env.get_cons, if_neg (fun e => by subst e; rw [hx] at ht; cases ht)]; exact hx)⟩) a' ha'
 refine Z2S (ρ := ρk) (b := false) (by simp) (fun a' ha' => ?_) (by rw [hsk']; simp [hp]) _ [] a hsk hf (ha.covers hk.covers) (fun _ h => by cases h)
 exact Z0Z (w := w) hg hN (show Z0g ρk (.tmp s) = some (.bool false) by simp [Z0g, hsk', hp]) rfl (n := fun a'' ha'' => n a'' (by simpa [hp] using ha'')) a' ha'
theorem l_or (m : Nat) (ks : List Nat) {s t dd : Nat} {p q : Prop} {_ : Decidable p} {_ : Decidable q} {l : List Oper} {ρk : Env} (hl : l.drop m = ⟨some dd, .pick (.tmp s) (.const (.bool true)) (.tmp t), ty, pos, af, g⟩ :: rest) (hs : ρ.get s = some (.bool (decide p))) (hk : Keep ρ (s :: ks) ρk)
  (hN : Nat.blt dd N = true) (hg : Z0t ops ρk g = true) (hg' : ∀ b, Z0t ops ((t, .bool b) :: ρk) g = true) (hsk : skips ops s false [] (l.take m) = true) (hf : Z4n ρk (l.take m) = true) (ht : (ρk.get t).isNone = true)
  (h1 : ¬ p → RunL P N ops ⟨Q.still, Stays N ρk w t q⟩ (l.take m) ((s, .bool false) :: ρ) w) (n : RunL P N ops Q rest ((dd, .bool (decide (p ∨ q))) :: ρk) w) : RunL P N ops Q l ρ w := fun a ha => by
 have hsk' : ρk.get s = some (.bool (decide p)) := by cases hk with | cons h _ => rw [hs] at h; cases h; simp [Env.get]
 rw [← List.take_append_drop m l, hl]
 by_cases hp : p
 ·refine Z2S (ρ := ρk) (b := true) (by simp) (fun a' ha' => ?_) (by rw [hsk']; simp [hp]) _ [] a hsk hf (ha.covers hk.covers) (fun _ h => by cases h)
  exact Z1l (w := w) hg hN (show Z0g ρk (.tmp s) = some (.bool true) by simp [Z0g, hsk', hp]) rfl (n := fun a'' ha'' => n a'' (by simpa [hp] using ha'')) a' ha'
 refine lst_then (ρ := ρk) (t := t) (q := q) (w := w) (fun a' ha' => ?_) _ a (h1 hp a (ha.front (by rw [hs]; simp [hp])))
 exact Z0Z (w := w) (ρ := (t, .bool (decide q)) :: ρk) (hg' _) hN (show Z0g ((t, .bool (decide q)) :: ρk) (.tmp s) = some (.bool false) by
   simp only [Z0g, Env.get_cons]
   rw [if_neg (fun e => by subst e; rw [hsk'] at ht; cases ht), hsk']; simp [hp]) (show Z0g ((t, .bool (decide q)) :: ρk) (.tmp t) = some (.bool (decide q)) by simp [Z0g, Env.get]) (n := fun a'' ha'' => n a'' ⟨ha''.1, ha''.2.1, fun x v hx => ha''.2.2 x v (by
    rw [Env.get_cons] at hx ⊢
    split at hx
    ·rename_i e; rw [if_pos e]; simpa [hp] using hx
    rename_i e; rw [if_neg e, Env.get_cons, if_neg (fun e => by subst e; rw [hx] at ht; cases ht)]; exact hx)⟩) a' ha'
end
end Go.Vc
