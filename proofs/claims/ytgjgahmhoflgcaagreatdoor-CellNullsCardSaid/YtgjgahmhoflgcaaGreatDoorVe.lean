/- Windows of owned rows: a slice cut out of a row, read and written through. -/
import Derived.Test.YtgjgahmhoflgcaaGreatDoorVd
set_option linter.unusedVariables false
set_option linter.unusedSimpArgs false
namespace Go.Vc
open Go.RowKit
section
variable {P : Program} {N : Nat} {ops : Array Oper} {Q : Z26} {ρ : Env} {w w0 : World} {rest : List Oper} {d : Nat} {ty : TypeId} {pos : String} {af : Array Edge} {g : Option (Nat × Bool)}
  {B : Nat} {M : Nat → Prop} {σ σ' : List As} {E : TypeId} {cs : List Value} {v : Value}
theorem Z4F {x : Operand} {lo hi mx : Option Operand} {T e : TypeId} {l h m : Nat} {rl rh rm : Option Int} {wx : World} (hg : Z0t ops ρ g = true) (hN : Nat.blt d N = true) (hT : P.underlying T = some (.slice e)) (hsz : (P.info? e).map (·.size) = some 1)
  (hx : Z0g ρ x = some v) (hl : Z2j ρ lo = some rl) (hh : Z2j ρ hi = some rh) (hm : Z2j ρ mx = some rm) (hv : IV wx v cs) (el : (rl.getD 0) = (l : Int)) (eh : (rh.getD (cs.length : Int)) = (h : Int)) (em : rm = none ∨ rm = some (h : Int)) (hx3 : rm.isSome = true → rh.isSome = true) (hlh : l < h) (hh' : h ≤ cs.length) (hm' : m + l = h)
  (n : ∀ A c c', v = .slice A cs.length c → m ≤ c' → RunL P N ops Q rest ((d, .slice (A.map (·.add l)) m c') :: ρ) w) : RunL P N ops Q (⟨some d, .slice T x lo hi mx, ty, pos, af, g⟩ :: rest) ρ w := by
 obtain ⟨A, c, rfl, hc, hs⟩ := hv
 have e : ∀ mm, l < mm → cutA A l mm 1 = A.map (·.add l) := fun mm h => by unfold cutA; rw [if_neg ZO, Nat.mul_one]
 rcases em with rfl | rfl
 ·refine Z2d (mm := c) hg hN hT hsz hx hl hh hm el eh rfl (by simp) ZO ZO (Nat.le_refl _) ?_
  rw [e c ZO, show h - l = m from by omega]
  exact n A c _ rfl ZO
 refine Z2d (mm := h) hg hN hT hsz hx hl hh hm el eh rfl (by simpa using hx3) ZO (Nat.le_refl _) ZO ?_
 rw [e h ZO, show h - l = m from by omega]
 exact n A c _ rfl ZO
theorem map_add (A : Option Addr) (i j : Nat) : (A.map (·.add i)).map (·.add j) = A.map (·.add (i + j)) := by
 cases A <;> simp [Z3U]
theorem win_sl {A : Option Addr} {n c l m : Nat} (hv : v = .slice A n c) (h : IV w v cs) (hm : l + m ≤ cs.length) : Sl w (A.map (·.add l)) ((cs.drop l).take m) := by
 obtain ⟨A', c', e, hc, hs⟩ := h
 subst hv
 injection e with e1 _ _
 subst e1
 exact (hs.drop l).take m
theorem win_iv {A : Option Addr} {n c c' l m : Nat} (hv : v = .slice A n c) (h : IV w v cs) (hm : l + m ≤ cs.length) (hc : m ≤ c') : IV w (.slice (A.map (·.add l)) m c') ((cs.drop l).take m) := by
 have hl : ((cs.drop l).take m).length = m := by rw [List.length_take, List.length_drop]; omega
 exact ⟨_, _, by rw [hl], by omega, win_sl hv h hm⟩
theorem Z3E {x ix : Operand} {k : IntKind} {i : Int} {j l m n c c' : Nat} {A : Option Addr} {T e : TypeId} (hg : Z0t ops ρ g = true) (hN : Nat.blt d N = true) (hT : P.underlying T = some (.slice e)) (hsz : (P.info? e).map (·.size) = some 1)
  (hx : Z0g ρ x = some (.slice (A.map (·.add l)) m c')) (hi : Z0g ρ ix = some (.int k i)) (hv : v = .slice A n c) (h : IV w v cs) (hm : l + m ≤ cs.length) (hij : i = (j : Int)) (hb : j < m)
  (n : RunL P N ops Q rest ((d, .pointer (A.map (·.add (l + j)))) :: ρ) w) : RunL P N ops Q (⟨some d, .indexAddr T x ix, ty, pos, af, g⟩ :: rest) ρ w := by
 subst hij
 have hl : ((cs.drop l).take m).length = m := by rw [List.length_take, List.length_drop]; omega
 refine l_idx hg hN hT hsz hx hi ZO (win_sl hv h hm) hl ?_
 rw [Int.toNat_natCast, map_add]
 exact n
theorem v_getw {x ix : Operand} {k kk : IntKind} {i lo hi : Int} {j l m n c c' : Nat} {A : Option Addr} {T e t : TypeId} {ls : List Int} {d' : Nat} {ty' : TypeId} {pos' : String} {af' : Array Edge} {g' : Option (Nat × Bool)}
  (hg : Z0t ops ρ g = true) (hg' : Z0t ops ((d, undef) :: ρ) g' = true) (hN : Nat.blt d N = true) (hN' : Nat.blt d' N = true) (hT : P.underlying T = some (.slice e)) (hsz : (P.info? e).map (·.size) = some 1) (hu : P.underlying t = some (.int kk))
  (hx : Z0g ρ x = some (.slice (A.map (·.add l)) m c')) (hi' : Z0g ρ ix = some (.int k i)) (hv : v = .slice A n c) (h : IS w kk v ls) (hm : l + m ≤ ls.length) (hmc : m ≤ c') (hR : Rg lo hi ls) (hd : (ρ.get d).isNone = true) (hij : i = (j : Int)) (hb : j < m)
  (n : lo ≤ ls.getD (l + j) 0 ∧ ls.getD (l + j) 0 ≤ hi → RunL P N ops Q rest ((d', .int kk (ls.getD (l + j) 0)) :: ρ) w) : RunL P N ops Q (⟨some d, .indexAddr T x ix, ty, pos, af, g⟩ :: ⟨some d', .load t (.tmp d), ty', pos', af', g'⟩ :: rest) ρ w := by
 have h1 := win_iv (c' := c') hv h (l := l) (m := m) (by simpa using hm) hmc
 subst hij
 have e1 : ((ints kk ls).drop l).take m = ints kk ((ls.drop l).take m) := by rw [← List.map_drop, ← List.map_take]
 rw [e1] at h1
 have hl : ((ls.drop l).take m).length = m := by rw [List.length_take, List.length_drop]; omega
 have e2 : ((ls.drop l).take m).getD j 0 = ls.getD (l + j) 0 := by simp [List.getD, List.getElem?_take, hb, List.getElem?_drop]
 refine v_geti hg hg' hN hN' hT hsz hu hx hi' h1 ZO hd ?_
 rw [Int.toNat_natCast, e2]
 exact n (hR.get ZO)
theorem Z1U {Q : Post} {p y : Operand} {A : Option Addr} {j n c : Nat} {t : TypeId} {k : IntKind} {l : List Int} {x : Int} (hw : St w0 B M σ w) (u : Upd σ (As.ri E k v l) (As.ri E k v (l.set j x)) σ') (hv : v = .slice A n c) (hn : n = l.length)
  (hg : Z0t ops ρ g = true) (hsz : (P.info? t).map (·.size) = some 1) (hx : Z0g ρ p = some (.pointer (A.map (·.add j)))) (hy : Z0g ρ y = some (.int k x)) (hj : j < l.length)
  (n : ∀ w', St w0 B M σ' w' → RunL P N ops ⟨false, Q⟩ rest ρ w') : RunL P N ops ⟨false, Q⟩ (⟨none, .store t p y, ty, pos, af, g⟩ :: rest) ρ w :=
 Z1w (c := c) hw u (by rw [hv, hn]; simp) hg hsz hx hy hj n
theorem Z0r {g : Nat} {E : TypeId} {cs : List Value} (h : (As.blk g E cs).ok w) : St w w.heap.size (As.blk g E cs).fp [As.blk g E cs] w :=
 St.startM w h fun k hk => by
  have hk' : k = g := hk
  subst hk'
  exact (Array.getElem?_eq_some_iff.1 h).1
theorem St.ikM {F : Nat → Prop} (hw : St w0 w0.heap.size F σ w) (hb : ∀ w1 : World, (∀ k, k < w0.heap.size → ¬ F k → w1.heap[k]? = w0.heap[k]?) → IV w1 v cs) : IV w v cs := hb w fun k hk hf => hw.ext.block k hk hf
theorem St.keepsArg {A : As} (hw : St w0 w0.heap.size Z0J σ w) (hm : A ∈ σ) (h : IV w0 v cs) : ∀ w1 : World, (∀ k, k < w.heap.size → ¬ A.fp k → w1.heap[k]? = w.heap[k]?) → IV w1 v cs := fun w1 h1 =>
 h.mono fun k hk => by
  rw [h1 k (Nat.lt_of_lt_of_le hk hw.ext.size) (fun hf => by
   rcases (hw.sep.lt hm k hf).1 with h2 | h2
   ·omega
   exact h2)]
  exact hw.ext.block k hk (fun e => e)
theorem St.rowlt {A : As} (hw : St w0 B M σ w) (hm : A ∈ σ) : ∀ k, A.fp k → k < w.heap.size := fun k hk => (hw.sep.lt hm k hk).2
/-! guarded stretches that may turn the world -/
def StaysS (N : Nat) (ρ : Env) (w0 : World) (B : Nat) (M : Nat → Prop) (σ : List As) (t : Nat) (q : Prop) [Decidable q] : Post := fun e a w' => e = .normal ∧ St w0 B M σ w' ∧ Fits N ((t, .bool (decide q)) :: ρ) a
theorem Z1P {t : Nat} {q : Prop} [Decidable q] {ρ' : Env} (hw : St w0 B M σ w) (ht : ρ'.get t = some (.bool (decide q))) (hc : Z2l ρ' ρ) : RunE N .normal (StaysS N ρ w0 B M σ t q) ρ' w := fun a ha =>
 ⟨rfl, hw, ha.covers (.cons ht rfl hc)⟩
theorem Z1H {Q : Post} {t : Nat} {q : Prop} [Decidable q] {l2 : List Oper} (h2 : ∀ a w', St w0 B M σ w' → Fits N ((t, .bool (decide q)) :: ρ) a → wpList P ops Q l2 a w') : ∀ (l : List Oper) (a : Act) (w' : World), wpList P ops (StaysS N ρ w0 B M σ t q) l a w' → wpList P ops Q (l ++ l2) a w'
 | [], a, w', h => h2 a w' h.2.1 h.2.2
 | o :: l, a, w', h => by
  rw [List.cons_append]
  unfold wpList at h ⊢
  split
  ·rename_i hw
   rw [if_pos hw] at h
   rcases h with h | ⟨_, ⟨a', w'', hx, _⟩⟩
   ·refine .inl ?_
    unfold Oper.wp at h ⊢
    revert h
    generalize (execOp a.eval o).run P w' = r
    intro h
    match r, h with
    | .ok (.value v) w', h => exact Z1H h2 l _ _ h
    | .ok .skip w', h => exact Z1H h2 l _ _ h
    | .ok (.defer d) w', h => exact Z1H h2 l _ _ h
    | .ok (.enter f args) w', h =>
     refine Calls.mono h fun e w'' hr => ?_
     match e, hr with
     | .returned v, hr => exact Z1H h2 l _ _ hr
     | .panicked ch, hr => exact absurd hr.1 (by simp)
     | .outgrown, ⟨_, _, hr⟩ => exact absurd hr.1 (by simp)
    | .ok (.row row args) w', h => exact Rows.mono h fun v w'' hr => Z1H h2 l _ _ hr
    | .halt (.panic v) w', h => exact absurd h.1 (by simp)
   cases hx
  rename_i hw
  rw [if_neg hw] at h
  exact Z1H h2 l _ _ h
theorem l_orS {Q : Post} (hw : St w0 B M σ w) (m : Nat) (ks : List Nat) {s t dd : Nat} {p q : Prop} {_ : Decidable p} {_ : Decidable q} {l : List Oper} {ρk : Env} (hl : l.drop m = ⟨some dd, .pick (.tmp s) (.const (.bool true)) (.tmp t), ty, pos, af, g⟩ :: rest) (hs : ρ.get s = some (.bool (decide p))) (hk : Keep ρ (s :: ks) ρk)
  (hN : Nat.blt dd N = true) (hg : Z0t ops ρk g = true) (hg' : ∀ b, Z0t ops ((t, .bool b) :: ρk) g = true) (hsk : skips ops s false [] (l.take m) = true) (hf : Z4n ρk (l.take m) = true) (ht : (ρk.get t).isNone = true)
  (h1 : ¬ p → RunL P N ops ⟨false, StaysS N ρk w0 B M σ t q⟩ (l.take m) ((s, .bool false) :: ρ) w) (n : ∀ w', St w0 B M σ w' → RunL P N ops ⟨false, Q⟩ rest ((dd, .bool (decide (p ∨ q))) :: ρk) w') : RunL P N ops ⟨false, Q⟩ l ρ w := fun a ha => by
 have hsk' : ρk.get s = some (.bool (decide p)) := by cases hk with | cons h _ => rw [hs] at h; cases h; simp [Env.get]
 rw [← List.take_append_drop m l, hl]
 by_cases hp : p
 ·refine Z2S (ρ := ρk) (b := true) (by simp) (fun a' ha' => ?_) (by rw [hsk']; simp [hp]) _ [] a hsk hf (ha.covers hk.covers) (fun _ h => by cases h)
  exact Z1l (w := w) hg hN (show Z0g ρk (.tmp s) = some (.bool true) by simp [Z0g, hsk', hp]) rfl (n := fun a'' ha'' => n w hw a'' (by simpa [hp] using ha'')) a' ha'
 have h1' := h1 hp a (ha.front (by rw [hs]; simp [hp]))
 unfold lst at h1' ⊢
 simp only [cond_false] at h1' ⊢
 refine Z1H (ρ := ρk) (t := t) (q := q) (fun a' w' hw' ha' => ?_) _ a w h1'
 have := Z0Z (P := P) (N := N) (ops := ops) (Q := ⟨false, Q⟩) (w := w') (ty := ty) (pos := pos) (af := af) (rest := rest) (ρ := (t, .bool (decide q)) :: ρk) (x := .const (.bool true)) (c := .tmp s) (hg' _) hN (show Z0g ((t, .bool (decide q)) :: ρk) (.tmp s) = some (.bool false) by
   simp only [Z0g, Env.get_cons]
   rw [if_neg (fun e => by subst e; rw [hsk'] at ht; cases ht), hsk']; simp [hp]) (show Z0g ((t, .bool (decide q)) :: ρk) (.tmp t) = some (.bool (decide q)) by simp [Z0g, Env.get]) (n := fun a'' ha'' => n w' hw' a'' ⟨ha''.1, ha''.2.1, fun x v hx => ha''.2.2 x v (by
    rw [Env.get_cons] at hx ⊢
    split at hx
    ·rename_i e; rw [if_pos e]; simpa [hp] using hx
    rename_i e; rw [if_neg e, Env.get_cons, if_neg (fun e => by subst e; rw [hx] at ht; cases ht)]; exact hx)⟩) a' ha'
 unfold lst at this
 simpa only [cond_false] using this
theorem St.front1 {A X : As} (h : St w0 B M (X :: A :: σ) w) : St w0 B M (A :: X :: σ) w := ⟨h.ext, h.base, h.sep.swap_⟩
theorem Sep.tail_ {A : As} (h : Sep B M w (A :: σ)) (k : Sep B M w σ → Sep B M w σ') (hs : ∀ X ∈ σ', X ∈ σ) : Sep B M w (A :: σ') := ⟨h.1, h.2.1, fun X hX => h.2.2.1 X (hs X hX), k h.2.2.2⟩
theorem St.front2 {A X Y : As} (h : St w0 B M (X :: Y :: A :: σ) w) : St w0 B M (A :: X :: Y :: σ) w :=
 ⟨h.ext, h.base, (h.sep.tail_ (fun s => s.swap_) (fun Z hZ => by
  cases hZ with
  | head => exact .tail _ (.head _)
  | tail _ h2 =>
   cases h2 with
   | head => exact .head _
   | tail _ h3 => exact .tail _ (.tail _ h3))).swap_⟩
theorem Own.of_blk {g : Nat} {E : TypeId} {cs : List Value} (h : (As.blk g E cs).ok w) (hl : cs.length ≤ maxLen) : Own w E 1 (.slice (some ⟨g, 0, none⟩) cs.length cs.length) cs.length cs :=
 ⟨by simp, .inr ⟨g, 0, cs.length, cs.toArray, rfl, Nat.le_refl _, hl, h, by simp, by simp⟩⟩
theorem St.blk_own {g : Nat} {E : TypeId} {cs : List Value} (hw : St w0 B M (As.blk g E cs :: σ) w) (hl : cs.length ≤ maxLen) : St w0 B M (As.ro E (.slice (some ⟨g, 0, none⟩) cs.length cs.length) cs :: σ) w :=
 hw.as .head (fun k hk => by
  have hk' : some g = some k := hk
  injection hk' with hk'
  exact hk'.symm) (fun w h => Own.of_blk h hl)
theorem IV.lies (h : IV w v cs) (hn : 0 < cs.length) : ∃ ad c, v = .slice (some ad) cs.length c := by
 obtain ⟨A, c, rfl, hc, hs⟩ := h
 obtain ⟨ad, rfl⟩ := hs.some_ hn
 exact ⟨ad, c, rfl⟩
theorem Z1c {x ix : Operand} {k : IntKind} {i : Int} {j n c : Nat} {ad : Addr} {T e : TypeId} (hg : Z0t ops ρ g = true) (hN : Nat.blt d N = true) (hT : P.underlying T = some (.slice e)) (hsz : (P.info? e).map (·.size) = some 1)
  (hx : Z0g ρ x = some v) (hi : Z0g ρ ix = some (.int k i)) (hv : v = .slice (some ad) n c) (hij : i = (j : Int)) (hb : j < n)
  (nx : RunL P N ops Q rest ((d, .pointer ((some ad).map (·.add j))) :: ρ) w) : RunL P N ops Q (⟨some d, .indexAddr T x ix, ty, pos, af, g⟩ :: rest) ρ w := by
 subst hij hv
 exact Z1n hg rfl hN (fun a ha => by
  cases hq : P.info? e with
  | none => simp [hq] at hsz
  | some inf =>
   have h1 : inf.size = 1 := by simpa [hq] using hsz
   simp [execOp, ha.eval hx, ha.eval hi, Instr.indexAt, asIntOf, run_underlying hT, hb, sizeOf, typeInfo, hq, h1]) nx
theorem sl_of {A : Option Addr} {n c : Nat} (hv : v = .slice A n c) (h : IV w v cs) : Sl w A cs := by
 obtain ⟨A', c', e, _, hs⟩ := h
 subst hv
 injection e with e1 _ _
 subst e1
 exact hs
theorem Z75 {p : Operand} {A : Option Addr} {j n c : Nat} {t : TypeId} {l : List UInt8} (hg : Z0t ops ρ g = true) (hN : Nat.blt d N = true) (hu : P.underlying t = some (.int .u8)) (hp : Z0g ρ p = some (.pointer (A.map (·.add j)))) (hv : v = .slice A n c) (h : IB w v l) (hj : j < l.length)
  (nx : (0 : Int) ≤ (l.getD j 0).toNat ∧ ((l.getD j 0).toNat : Int) ≤ 255 → RunL P N ops Q rest ((d, .int .u8 ((l.getD j 0).toNat : Int)) :: ρ) w) : RunL P N ops Q (⟨some d, .load t p, ty, pos, af, g⟩ :: rest) ρ w :=
 l_load hg hN hu rfl hp (sl_of hv h) (Z77 l j hj) (nx (by have := UInt8.toNat_lt (l.getD j 0); omega))
theorem Z1u {p : Operand} {A : Option Addr} {j n c : Nat} {t : TypeId} {k : IntKind} {l : List Int} {lo hi : Int} (hg : Z0t ops ρ g = true) (hN : Nat.blt d N = true) (hu : P.underlying t = some (.int k)) (hp : Z0g ρ p = some (.pointer (A.map (·.add j)))) (hv : v = .slice A n c) (h : IS w k v l) (hR : Rg lo hi l) (hj : j < l.length)
  (nx : lo ≤ l.getD j 0 ∧ l.getD j 0 ≤ hi → RunL P N ops Q rest ((d, .int k (l.getD j 0)) :: ρ) w) : RunL P N ops Q (⟨some d, .load t p, ty, pos, af, g⟩ :: rest) ρ w :=
 l_load hg hN hu rfl hp (sl_of hv h) (Z4J k l j hj) (nx (hR.get hj))
theorem Z69 {Q : Post} {p y : Operand} {A : Option Addr} {j n c : Nat} {t : TypeId} {l : List UInt8} {x : UInt8} {i : Int} (hw : St w0 B M σ w) (u : Upd σ (As.rb E v l) (As.rb E v (l.set j x)) σ') (hv : v = .slice A n c) (hn : n = l.length)
  (hg : Z0t ops ρ g = true) (hsz : (P.info? t).map (·.size) = some 1) (hx : Z0g ρ p = some (.pointer (A.map (·.add j)))) (hy : Z0g ρ y = some (.int .u8 i)) (hi : i = (x.toNat : Int)) (hj : j < l.length)
  (n : ∀ w', St w0 B M σ' w' → RunL P N ops ⟨false, Q⟩ rest ρ w') : RunL P N ops ⟨false, Q⟩ (⟨none, .store t p y, ty, pos, af, g⟩ :: rest) ρ w :=
 v_storeb (c := c) hw u (by rw [hv, hn]; simp) hg hsz hx hy hi hj n
end
end Go.Vc
