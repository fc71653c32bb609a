/- plain facts: texts of floats -/
import Derived.Shelf.Strconv.Itoa4
import Derived.Shelf.Lay
import Derived.Ground.NamesProg
import Derived.Test.YtfomhfbmmjhljaaGreatDoorHa
set_option linter.unusedVariables false
set_option linter.unusedSimpArgs false
set_option maxRecDepth 10000
namespace Go.Proofs.YtfomhfbmmjhljaaGreatDoor.W
open Go.Vc Go.RowKit _root_.Go.Proofs.Tryz
theorem dl_eq : ∀ {k : Nat} {m : Int}, 10 ^ k ≤ m → m < 10 ^ (k + 1) → dl m = k + 1
 | 0, m, h1, h2 => by
  simp at h1 h2
  rw [Z4t ZO, show m / 10 = 0 from by omega, Z57]
 | k + 1, m, h1, h2 => by
  have hp := p10 k
  have e1 : (10 : Int) ^ (k + 1) = 10 ^ k * 10 := Int.pow_succ ..
  have e2 : (10 : Int) ^ (k + 1 + 1) = 10 ^ (k + 1) * 10 := Int.pow_succ ..
  rw [Z4t ZO, dl_eq (k := k) (m := m / 10) ZO ZO]
theorem dl_mul {m : Int} (h : 0 < m) : ∀ j : Nat, dl (m * 10 ^ j) = dl m + j
 | 0 => by simp
 | j + 1 => by
  have hp := Int.mul_pos h (p10 j)
  have e : m * 10 ^ (j + 1) = m * 10 ^ j * 10 := by rw [Int.pow_succ, Int.mul_assoc]
  rw [e, Z4t ZO, Int.mul_ediv_cancel _ ZO, dl_mul h j]
  omega
theorem q_zero {x y t e : Int} (hx : 0 ≤ x) (hy : 0 < y) (h : TopR x y t) : fQ x y e = 0 ↔ t < e := by
 have hD := Z1W hy e
 constructor
 ·intro h0
  rcases Int.lt_or_le t e with h1 | h1
  ·exact h1
  have := (Int.le_ediv_iff_mul_le hD (a := 1) (b := fN x e)).2 (by rw [Int.one_mul]; exact h.le hy h1)
  unfold fQ at h0
  omega
 intro h1
 have := (fQ_bd hx hy h 0 (e := e) ZO)
 rw [Int.pow_zero] at this
 omega
theorem size_of {d : Kd} {b m e t : Int} (hb : 0 < b ∧ b < d.I) (h : DigR d b (fX d b) (fY d b) m e) (ht : TopR (fX d b) (fY d b) t) : (dl m : Int) + e - 1 = t ∨ (dl m : Int) + e - 1 = t + 1 := by
 have hmp := (h.bd hb).1
 have hfl := Z4s hb
 obtain ⟨t', f, ⟨h1, h2, h3, h4⟩, h5, j, h6, h7⟩ := h
 obtain rfl := ht.unique hfl.hy h1
 obtain ⟨k, hk⟩ : ∃ k : Nat, t - f = k := ⟨(t - f).toNat, ZO⟩
 have q1 := Z4g hfl.hy ht k
 have q2 := Z55 hfl.hy ht (k + 1)
 rw [show t - (k : Int) = f from by omega] at q1
 rw [show t + 1 - ((k + 1 : Nat) : Int) = f from by omega] at q2
 have hq : fQ (fX d b) (fY d b) f = fN (fX d b) f / fD (fY d b) f := rfl
 rw [← hq] at q1 q2
 have hpk : Z2v d b (fX d b) (fY d b) f = fQ (fX d b) (fY d b) f ∨ Z2v d b (fX d b) (fY d b) f = fQ (fX d b) (fY d b) f + 1 := by
  unfold Z2v
  split <;> omega
 have hdl : dl (Z2v d b (fX d b) (fY d b) f) = dl m + j := by rw [h6, dl_mul hmp]
 rcases Int.lt_or_le (Z2v d b (fX d b) (fY d b) f) (10 ^ (k + 1)) with h8 | h8
 ·have := dl_eq (k := k) (m := Z2v d b (fX d b) (fY d b) f) ZO h8
  omega
 have e2 : (10 : Int) ^ (k + 1 + 1) = 10 ^ (k + 1) * 10 := Int.pow_succ ..
 have := p10 (k + 1)
 have := dl_eq (k := k + 1) (m := Z2v d b (fX d b) (fY d b) f) h8 ZO
 omega
def rnE (N D : Int) : Int := if 0 < cmpI (2 * (N % D)) D ∨ (cmpI (2 * (N % D)) D = 0 ∧ N / D % 2 = 1) then N / D + 1 else N / D
theorem rnE_bd {N D : Int} : N / D ≤ rnE N D ∧ rnE N D ≤ N / D + 1 := by
 unfold rnE
 split <;> omega
theorem rn_digs {x y t : Int} (hy : 0 < y) (h : TopR x y t) (n : Nat) : dl (rnE (fN x (t - n)) (fD y (t - n))) = n + 1 ∨ (dl (rnE (fN x (t - n)) (fD y (t - n))) = n + 2) := by
 have q1 := Z4g hy h n
 have q2 := Z55 hy h (n + 1)
 rw [show t + 1 - ((n + 1 : Nat) : Int) = t - n from by omega] at q2
 have hb := rnE_bd (N := fN x (t - n)) (D := fD y (t - n))
 rcases Int.lt_or_le (rnE (fN x (t - n)) (fD y (t - n))) (10 ^ (n + 1)) with h8 | h8
 ·exact .inl (dl_eq ZO h8)
 have e2 : (10 : Int) ^ (n + 1 + 1) = 10 ^ (n + 1) * 10 := Int.pow_succ ..
 have := p10 (n + 1)
 exact .inr (dl_eq h8 ZO)
/-! ### texts -/
def Z2S (n : Int) : List UInt8 := if n < 0 then 45 :: dtx (-n) else dtx n
def zsT (n : Int) : List UInt8 := List.replicate n.toNat 48
def ptT (ds : List UInt8) (n : Int) : List UInt8 := ds.take n.toNat ++ (if n.toNat < ds.length then 46 :: ds.drop n.toNat else [])
def exT (n : Int) : List UInt8 := 101 :: Z2S n
def shT (m e : Int) : List UInt8 :=
 if ((dtx m).length : Int) + e < -5 ∨ 21 < ((dtx m).length : Int) + e then ptT (dtx m) 1 ++ exT (((dtx m).length : Int) + e - 1)
 else if ((dtx m).length : Int) + e < 1 then [48, 46] ++ zsT (-(((dtx m).length : Int) + e)) ++ dtx m
 else if ((dtx m).length : Int) + e < ((dtx m).length : Int) then ptT (dtx m) (((dtx m).length : Int) + e)
 else dtx m ++ zsT e
def padT (ds : List UInt8) (n : Int) : List UInt8 := if (ds.length : Int) ≤ n then zsT (n + 1 - ds.length) ++ ds else ds
def fxT (R n : Int) : List UInt8 := ptT (padT (dtx R) n) ((padT (dtx R) n).length - n)
def sgT (d : Kd) (b : Int) : List UInt8 := if d.S ≤ b then [45] else []
def wdT (d : Kd) (b : Int) (body : List UInt8) : List UInt8 := if d.I < b % d.S then [110, 97, 110] else sgT d b ++ (if b % d.S = d.I then [105, 110, 102] else body)
end Go.Proofs.YtfomhfbmmjhljaaGreatDoor.W
namespace Go.Proofs.YtfomhfbmmjhljaaGreatDoor
open Go.Shelf Go.Proofs
shelf_lay LaysM.n246 Nm 246 at Tryz as Tryz.lays246
end Go.Proofs.YtfomhfbmmjhljaaGreatDoor
namespace Go.Proofs.YtfomhfbmmjhljaaGreatDoor.W
open Go.Vc Go.RowKit _root_.Go.Proofs.Tryz
section
variable {P : Program} {w0 w w' w1 : World} {B : Nat} {M : Nat → Prop} {σ τ : List As}
theorem St.argR (hw : St w0 B M (τ ++ σ) w) {A : As} (hA : A ∈ σ) {R : World → Prop} (h : ∀ w1, A.ok w1 → R w1) : ∀ w1 : World, (∀ k, k < w.heap.size → ¬ fps τ k → w1.heap[k]? = w.heap[k]?) → R w1 := fun w1 h1 =>
 h w1 (A.loc w w1 (fun k hk => h1 k (hw.sep.lt (List.mem_append_right _ hA) k hk).2 fun ⟨X, hX, hk'⟩ => hw.sep.cross X hX A hA k hk' hk) (hw.sep.ok (List.mem_append_right _ hA)))
theorem St.argE {F : Nat → Prop} {R : World → Prop} (hw : St w0 w0.heap.size F (τ ++ σ) w) (hb : ∀ w1 : World, (∀ k, k < w0.heap.size → ¬ F k → w1.heap[k]? = w0.heap[k]?) → R w1) (hF : ∀ k, k < w0.heap.size → fps τ k → F k) : ∀ w1 : World, (∀ k, k < w.heap.size → ¬ fps τ k → w1.heap[k]? = w.heap[k]?) → R w1 := fun w1 h1 =>
 hb w1 fun k hk hf => (h1 k (Nat.lt_of_lt_of_le hk hw.ext.size) fun h => hf (hF k hk h)).trans (hw.ext.block k hk hf)
theorem St.outE {F : Nat → Prop} (hw : St w0 w0.heap.size F (τ ++ σ) w) : ∀ k, k < w0.heap.size → fps τ k → F k := fun k hk ⟨A, hA, hf⟩ => by
 rcases (hw.sep.lt (List.mem_append_left _ hA) k hf).1 with h | h
 ·omega
 exact h
theorem St.argH {F : Nat → Prop} {R : World → Prop} (hw : St w0 w0.heap.size F (τ ++ σ) w) (hb : ∀ w1 : World, (∀ k, k < w0.heap.size → ¬ F k → w1.heap[k]? = w0.heap[k]?) → R w1) : ∀ w1 : World, (∀ k, k < w.heap.size → ¬ fps τ k → w1.heap[k]? = w.heap[k]?) → R w1 := St.argE hw hb (St.outE hw)
theorem St.argW (hw : St w0 B M (τ ++ σ) w) {A : As} (hA : A ∈ σ) {v' : Value} {cs' : List Value} (h : IV w v' cs') (ho : ∀ k, v'.ownBlock = some k → A.fp k) : ∀ w1 : World, (∀ k, k < w.heap.size → ¬ fps τ k → w1.heap[k]? = w.heap[k]?) → IV w1 v' cs' := fun w1 h1 =>
 (As.iv v' cs').loc w w1 (fun k hk => h1 k (hw.sep.lt (List.mem_append_right _ hA) k (ho k hk)).2 fun ⟨X, hX, hk'⟩ => hw.sep.cross X hX A hA k hk' (ho k hk)) h
theorem St.grewN (hw : St w0 B M σ w) (k : Nat) (os : Array Obj) : St w0 B M σ (Sort.grow (w.drewN k) os) := hw.same ⟨rfl, rfl, rfl, by simp [Sort.grow], fun j hj _ => by
 have := Sort.heap_grow_old (w.drewN k) os (k := j) (by exact hj)
 exact this⟩
theorem Grow.grewN (w : World) (k : Nat) (os : Array Obj) : Grow w (Sort.grow (w.drewN k) os) [] := fun _ _ _ _ hw => St.grewN hw k os
end
def TabP (w : World) : Prop := Lib.TabIs P w "internal/strconv.uint64pow10" .u64 Lib.pow10Tab
theorem putP (lb : Nat) (vt : Value) (t : List UInt8) (hL : t.length ≤ 100000) (vb : Value) (u : List UInt8) (hu : u.length ≤ 100000) (w : World) (hS : Sep w.heap.size (fps [As.blk lb 72 [vt], As.rb 5 vt t]) w [As.blk lb 72 [vt], As.rb 5 vt t]) (hvb : ∀ w1 : World, (∀ k, k < w.heap.size → ¬ fps [As.blk lb 72 [vt], As.rb 5 vt t] k → w1.heap[k]? = w.heap[k]?) → IB w1 vb u) :
  Z0h P 16 [.pointer (some ⟨lb, 0, none⟩), vb] w fun r w' => ∃ vt', r = .tuple #[] ∧ Z2E w w' [As.blk lb 72 [vt], As.rb 5 vt t] [As.blk lb 72 [vt'], As.rb 5 vt' (t ++ u)] := by
 refine Z0n func16 rfl ntmps16 rfl ?_
 have H0 := St.startS hS
 have H0 : St w w.heap.size (fps [As.blk lb 72 [vt], As.rb 5 vt t]) [As.blk lb 72 [vt], As.rb 5 vt t] w := H0
 have hbt : (bys t).length = t.length := by simp [bys]
 have hbu : (bys u).length = u.length := by simp [bys]
 refine Z00 (Zm (Zm (Z0N rfl rfl rfl (Z08 Z1Y rfl rfl rfl ?_))))
 refine Z04 H0 mem0 rfl rfl underlying26 rfl rfl rfl ?_
 refine Zm ?_
 have H1 := St.front1 H0
 refine Z3P H1 rfl rfl underlying26 ti5 rfl rfl rfl (by first | exact H1.io mem0 | exact H1.ibl mem1 | exact H1.ikM hvb | assumption) (by first | exact Z2V _ _ | exact Z3T _ | simp [Value.oneCell']) (by first | (simp; done) | (simp; omega)) (by first | (simp; done) | (simp; omega)) (fun v0_6 w2 H2 => ?_)
 have h06 : v0_6.oneCell' = true := by
  obtain ⟨A, c, e, _⟩ := H2.io mem0
  rw [e]
  rfl
 refine Z0N rfl rfl rfl (Z08 Z1Y rfl rfl rfl ?_)
 refine Z0p H2 (.tail .head) (by repeat (first | exact .zero | apply Z14.succ)) rfl tz26 rfl rfl ZR (fun w3 H3 => ?_)
 refine Z02 ?_
 try dsimp only
 refine Z3i results16 ?_
 refine ⟨_, rfl, ?_⟩
 have H4 := St.front1 H3
 have happ : bys t ++ bys u = bys (t ++ u) := by simp [bys]
 exact ⟨_, rfl, (H4.cast (show _ = [As.blk lb 72 [v0_6], As.rb 5 v0_6 (t ++ u)] from by rw [As.rb, ← happ])).transS⟩
theorem dec_eq (u : Nat) : Lib.decDigits u = dtx (u : Int) := by
 induction u using Nat.strongRecOn with
 | ind u ih =>
  unfold Lib.decDigits
  split
  ·rename_i h
   rcases Nat.eq_zero_or_pos u with h0 | h0
   ·subst h0; rfl
   unfold dtx
   rw [if_neg ZO, Z24 ZO, show ((u : Int) / 10).toNat = 0 from by omega, Z1w]
   unfold dig
   rw [show ((u : Int) % 10).toNat = u from by omega]
   rfl
  rename_i h
  rw [ih (u / 10) ZO]
  unfold dtx
  rw [if_neg ZO, if_neg ZO, Z24 (n := (u : Int)) ZO]
  unfold dig
  rw [show ((u : Int) % 10).toNat = u % 10 from by omega, show (((u / 10 : Nat) : Int)) = (u : Int) / 10 from by omega]
theorem itoa_eq (n : Int) : Lib.itoa n = Z2S n := by
 unfold Lib.itoa Z2S
 split
 ·rw [dec_eq, show ((n.natAbs : Nat) : Int) = -n from by omega]
 rw [dec_eq, show ((n.toNat : Nat) : Int) = n from by omega]
theorem itoaI (n : Int) (hn : -1000 ≤ n ∧ n ≤ 1000) (w : World) (hT : TabP w) : Z0h P 92 [.int .i64 n, .int .i64 10] w fun r w' => r = str (Z2S n) ∧ Grow w w' [] := by
 refine (Any.internal_strconv_FormatInt_10 Tryz.lays246 n ZO ZO w hT).mono ?_
 rintro e w' ⟨rfl, k, os, rfl⟩
 exact ⟨_, rfl, by rw [itoa_eq], Grow.grewN w k os⟩
theorem itoaJ (n : Int) (hn : -1000 ≤ n ∧ n ≤ 1000) (w : World) (hT : TabP w) :
  Z0h P 64 [.int .i64 n] w fun r w' => r = str (Z2S n) ∧ Grow w w' [] := by
 refine Z0n func64 rfl ntmps64 rfl ?_
 have H0 := St.start w
 refine Z03 (Z00 (Zg (Z02 (Z01 (Z03 (Z00 (Zm ?_)))))))
 refine Zc func92 (itoaI n hn w (by exact hT)) ?_
 rintro _ w1 ⟨rfl, hG⟩
 have H1 := hG _ _ _ _ H0
 simp only [Zca, Zna] at H1
 refine Zg (Z02 (Z01 ?_))
 refine Zk [2] ?_
 refine Z0f ?_
 refine Z0q results64 rfl ?_
 refine ⟨_, rfl, ?_⟩
 exact ⟨rfl, H1.grows⟩
theorem itoaP (n : Int) (hn : -1000 ≤ n ∧ n ≤ 1000) (w : World) (hT : TabP w) :
  Z0h P 39 [.int .i64 n] w fun r w' => r = str (Z2S n) ∧ Grow w w' [] := by
 refine Z0n func39 rfl ntmps39 rfl ?_
 have H0 := St.start w
 refine Z03 (Z00 (Zg (Z02 (Z01 (Z03 (Z00 (Zm ?_)))))))
 refine Zc func64 (itoaJ n hn w hT) ?_
 rintro _ w1 ⟨rfl, hG⟩
 have H1 := hG _ _ _ _ H0
 simp only [Zca, Zna] at H1
 refine Zg (Z02 (Z01 ?_))
 refine Zk [2] ?_
 refine Z0f ?_
 refine Z0q results39 rfl ?_
 refine ⟨_, rfl, ?_⟩
 exact ⟨rfl, H1.grows⟩
theorem Z3G (lb : Nat) (vt : Value) (t : List UInt8) (hL : t.length ≤ 50000) (n : Int) (hn : n ≤ 30000) (w : World) (hS : Sep w.heap.size (fps [As.blk lb 72 [vt], As.rb 5 vt t]) w [As.blk lb 72 [vt], As.rb 5 vt t]) :
  Z0h P 19 [.pointer (some ⟨lb, 0, none⟩), .int .i64 n] w fun r w' => ∃ vt', r = .tuple #[] ∧ Z2E w w' [As.blk lb 72 [vt], As.rb 5 vt t] [As.blk lb 72 [vt'], As.rb 5 vt' (t ++ zsT n)] := by
 refine Z0n func19 rfl ntmps19 rfl ?_
 have H0 := St.startS hS
 refine Z03 (Z00 (Zm (Zm (Z02 (Z01 (Z0e ?_))))))
 refine Z0y (ι := Nat × Value) (fun (z0 : Nat × Value) => match z0 with | ⟨k, vt1⟩ => (n - k).toNat) (fun (z0 : Nat × Value) (w' : World) => match z0 with | ⟨k, vt1⟩ => St w w.heap.size (fps [As.blk lb 72 [vt], As.rb 5 vt t]) ([As.blk lb 72 [vt1], As.rb 5 vt1 (t ++ List.replicate k 48)]) w' ∧ ((k : Int) ≤ n ∨ k = 0)) (fun (z0 : Nat × Value) => match z0 with | ⟨k, vt1⟩ => [(5, .int .i64 (k : Int))]) [0, 4] (0, vt) ?_ (.cons rfl (.cons rfl .nil)) ?_ ?_
 ·exact ⟨H0.cast (by simp), .inr rfl⟩
 ·exact (.cons rfl ZN .nil)
 rintro ⟨k, vt1⟩ w1 ⟨H1, hk⟩
 show RunC P _ _ _ (_ :: _) _
 refine Z03 (Z00 ?_)
 refine Zl ?_
 refine Z02 (Z01 (Z03 ?_))
 (first | refine Z0a rfl ?_ ?_ | refine Z06 rfl ?_ ?_) <;> intro hc0
 ·refine Z0c (Z01 ?_)
  refine Zk [0, 4, 5] ?_
  refine Z03 (Z0e (Z00 (Zm ?_)))
  refine Z1D H1 rfl rfl underlying26 ti5 rfl (.cons rfl ZR .nil) rfl rfl rfl (fun b2_1 w2 H2 => ?_)
  have H3 := St.frontL (l := [_, _]) H2
  simp only [Zca, Zna] at H3
  have H4 := St.frontL (l := [_, _]) H3
  simp only [Zca, Zna] at H4
  refine Z0J rfl rfl func16 rfl rfl (.cons rfl (.cons rfl .nil)) (putP lb vt1 (t ++ List.replicate k 48) (by first | omega | (simp; omega)) _ ([48]) (by simp) w2 (St.rows (τ := [As.blk lb 72 [vt1], As.rb 5 vt1 (t ++ List.replicate k 48)]) H4) (St.argR (τ := [As.blk lb 72 [vt1], As.rb 5 vt1 (t ++ List.replicate k 48)]) H4 (A := As.blk b2_1 5 [.int .u8 48]) (.head _) (R := fun w1 => IB w1 (.slice (some ⟨b2_1, 0, none⟩) 1 1) [48]) (fun w1 h => Z3O h))) ?_
  rintro _ w5 ⟨vt2, rfl, hX⟩
  have H5 := hX _ _ _ _ H4
  simp only [Zca, Zna] at H5
  refine Z02 ?_
  refine Z0C ?_
  refine Z01 (Z00 ?_)
  refine Z0w rfl rfl rfl rfl (Z0i ZO) ?_
  refine Zm (Z02 ?_)
  have H6 := St.del (.tail (.tail .head)) H5
  refine Z0r (i := (k, vt1)) (k + 1, vt2) ?_ ?_ (.cons rfl (.cons rfl .nil)) ?_
  ·first | omega | (simp; omega)
  ·exact ⟨H6.cast (by rw [List.append_assoc, ← List.replicate_succ' (n := k) (a := (48 : UInt8))]), .inl ZO⟩
  exact (.cons rfl ZN .nil)
 refine Z0E ?_
 refine Z07 ?_
 refine Z07 ?_
 refine Z0l ?_
 try dsimp only
 refine Z3i results19 ?_
 refine ⟨_, rfl, ?_⟩
 obtain rfl : n.toNat = k := by omega
 exact ⟨_, rfl, (H1.cast (show _ = [As.blk lb 72 [vt1], As.rb 5 vt1 (t ++ zsT n)] from rfl)).transS⟩
theorem pointP (lb : Nat) (vt : Value) (t : List UInt8) (hL : t.length ≤ 50000) (vd : Value) (ds : List UInt8) (hds : ds.length ≤ 1000) (n : Nat) (hn : n ≤ ds.length) (w : World) (hS : Sep w.heap.size (fps [As.blk lb 72 [vt], As.rb 5 vt t, As.iv vd (bys ds)]) w [As.blk lb 72 [vt], As.rb 5 vt t, As.iv vd (bys ds)]) :
  Z0h P 20 [.pointer (some ⟨lb, 0, none⟩), vd, .int .i64 (n : Int)] w fun r w' => ∃ vt', r = .tuple #[] ∧ Z2E w w' [As.blk lb 72 [vt], As.rb 5 vt t, As.iv vd (bys ds)] [As.blk lb 72 [vt'], As.rb 5 vt' (t ++ ptT ds n), As.iv vd (bys ds)] := by
 refine Z0n func20 rfl ntmps20 rfl ?_
 have H0 := St.startS hS
 have hbd : (bys ds).length = ds.length := by simp [bys]
 refine Z03 (Z00 (Zm (Zm (Zm ?_))))
 refine Z2D (l := 0) (h := n) rfl rfl underlying26 tz5 rfl rfl rfl rfl (by first | exact H0.ibl mem0 | exact H0.io mem1 | exact H0.ii mem2 | assumption) ZD ZD (.inl rfl) (by simp) ZO ZI (fun v0_3 h0_3 ho0_3 => ?_)
 have hct0 : IB w v0_3 (ds.take n) := by
  have e : ((bys ds).take n).drop 0 = bys (ds.take n) := by simp [bys, List.map_take]
  rw [e] at h0_3
  exact h0_3
 refine Z0J rfl rfl func16 rfl rfl (.cons rfl (.cons rfl .nil)) (putP lb vt (t) (by first | omega | (simp; omega)) _ ((ds.take n)) (by simp; omega) w (St.rows (τ := [As.blk lb 72 [vt], As.rb 5 vt (t)]) H0) (St.argW (τ := [As.blk lb 72 [vt], As.rb 5 vt (t)]) H0 (A := As.iv vd (bys ds)) (.head _) hct0 (fun k hk => by rw [ho0_3] at hk; exact hk))) ?_
 rintro _ w1 ⟨v1, rfl, hX⟩
 have H1 := hX _ _ _ _ H0
 simp only [Zca, Zna] at H1
 refine Z02 (Z01 (Z03 (Z00 (Zm (Zm ?_)))))
 refine Z0L rfl rfl underlying26 rfl (by first | exact H1.ibl mem0 | exact H1.io mem1 | exact H1.ii mem2 | assumption) ?_
 refine Zl ?_
 refine Z02 (Z01 ?_)
 refine Zk [0, 1, 2, 14] ?_
 (first | refine Z0a rfl ?_ ?_ | refine Z06 rfl ?_ ?_) <;> intro hc0
 ·refine Z03 (Z00 (Zm ?_))
  refine Z1D H1 rfl rfl underlying26 ti5 rfl (.cons rfl ZR .nil) rfl rfl rfl (fun b2_1 w2 H2 => ?_)
  have H3 := St.frontL (l := [_, _]) H2
  simp only [Zca, Zna] at H3
  have H4 := St.frontL (l := [_, _]) H3
  simp only [Zca, Zna] at H4
  refine Z0J rfl rfl func16 rfl rfl (.cons rfl (.cons rfl .nil)) (putP lb v1 (t ++ ds.take n) (by first | omega | (simp; omega)) _ ([46]) (by simp) w2 (St.rows (τ := [As.blk lb 72 [v1], As.rb 5 v1 (t ++ ds.take n)]) H4) (St.argR (τ := [As.blk lb 72 [v1], As.rb 5 v1 (t ++ ds.take n)]) H4 (A := As.blk b2_1 5 [.int .u8 46]) (.head _) (R := fun w1 => IB w1 (.slice (some ⟨b2_1, 0, none⟩) 1 1) [46]) (fun w1 h => Z3O h))) ?_
  rintro _ w5 ⟨v2, rfl, hX⟩
  have H5 := hX _ _ _ _ H4
  simp only [Zca, Zna] at H5
  refine Z02 (Z01 (Z00 (Zm (Zm (Zm ?_)))))
  refine Z2D (l := n) (h := ds.length) rfl rfl underlying26 tz5 rfl rfl rfl rfl (by first | exact H5.ibl mem0 | exact H5.io mem1 | exact H5.ibl mem2 | exact H5.ii mem3 | assumption) ZD ZD (.inl rfl) (by simp) ZO ZI (fun v3_3 h3_3 ho3_3 => ?_)
  have hct3 : IB w5 v3_3 (ds.drop n) := by
   have e : ((bys ds).take ds.length).drop n = bys (ds.drop n) := by rw [List.take_of_length_le ZO]; simp [bys, List.map_drop]
   rw [e] at h3_3
   exact h3_3
  refine Z0J rfl rfl func16 rfl rfl (.cons rfl (.cons rfl .nil)) (putP lb v2 (t ++ ds.take n ++ [46]) (by first | omega | (simp; omega)) _ ((ds.drop n)) (by simp; omega) w5 (St.rows (τ := [As.blk lb 72 [v2], As.rb 5 v2 (t ++ ds.take n ++ [46])]) H5) (St.argW (τ := [As.blk lb 72 [v2], As.rb 5 v2 (t ++ ds.take n ++ [46])]) H5 (A := As.iv vd (bys ds)) (.tail _ (.head _)) hct3 (fun k hk => by rw [ho3_3] at hk; exact hk))) ?_
  rintro _ w6 ⟨v3, rfl, hX⟩
  have H6 := hX _ _ _ _ H5
  simp only [Zca, Zna] at H6
  refine Z02 ?_
  try dsimp only
  refine Z3i results20 ?_
  refine ⟨_, rfl, ?_⟩
  have H10 := St.del (.tail (.tail (.tail .head))) (St.front2 (St.front2 (St.front3 H6)))
  exact ⟨_, rfl, (H10.cast (show _ = [As.blk lb 72 [v3], As.rb 5 v3 (t ++ ptT ds n), As.iv vd (bys ds)] from by unfold ptT; rw [Int.toNat_natCast, if_pos ZO]; simp [List.append_assoc])).transS⟩
 refine Z0c ?_
 try dsimp only
 refine Z3i results20 ?_
 refine ⟨_, rfl, ?_⟩
 have H13 := St.front2 (St.front2 (St.front2 H1))
 exact ⟨_, rfl, (H13.cast (show _ = [As.blk lb 72 [v1], As.rb 5 v1 (t ++ ptT ds n), As.iv vd (bys ds)] from by unfold ptT; rw [Int.toNat_natCast, if_neg ZO]; simp)).transS⟩
theorem itoaT_len {n : Int} (hn : -1000 ≤ n ∧ n ≤ 1000) : (Z2S n).length ≤ 5 := by
 have key : ∀ m : Int, 0 ≤ m → m ≤ 1000 → (dtx m).length ≤ 4 := fun m h0 h1 => by
  rcases Int.lt_or_eq_of_le h0 with h | h
  ·rw [Z3w h]
   exact dl_le h0 (by rw [show (10 : Int) ^ 4 = 10000 from by decide]; omega)
  rw [← h]; decide
 unfold Z2S
 split
 ·have := key (-n) ZO ZO
  simp; omega
 have := key n ZO ZO
 omega
theorem expP (lb : Nat) (vt : Value) (t : List UInt8) (hL : t.length ≤ 50000) (n : Int) (hn : -1000 ≤ n ∧ n ≤ 1000) (w : World) (hS : Sep w.heap.size (fps [As.blk lb 72 [vt], As.rb 5 vt t]) w [As.blk lb 72 [vt], As.rb 5 vt t]) (hT : ∀ w1 : World, (∀ k, k < w.heap.size → ¬ fps [As.blk lb 72 [vt], As.rb 5 vt t] k → w1.heap[k]? = w.heap[k]?) → TabP w1) :
  Z0h P 21 [.pointer (some ⟨lb, 0, none⟩), .int .i64 n] w fun r w' => ∃ vt', r = .tuple #[] ∧ Z2E w w' [As.blk lb 72 [vt], As.rb 5 vt t] [As.blk lb 72 [vt'], As.rb 5 vt' (t ++ exT n)] := by
 refine Z0n func21 rfl ntmps21 rfl ?_
 have H0 := St.startS hS
 have hil := itoaT_len hn
 refine Z03 (Z00 (Zm ?_))
 refine Z1D H0 rfl rfl underlying26 ti5 rfl (.cons rfl ZR .nil) rfl rfl rfl (fun b0_1 w1 H1 => ?_)
 have H2 := St.frontL (l := [_, _]) H1
 simp only [Zca, Zna] at H2
 have H3 := St.frontL (l := [_, _]) H2
 simp only [Zca, Zna] at H3
 refine Z0J rfl rfl func16 rfl rfl (.cons rfl (.cons rfl .nil)) (putP lb vt (t) ZO _ ([101]) (by simp) w1 (St.rows (τ := [As.blk lb 72 [vt], As.rb 5 vt (t)]) H3) (St.argR (τ := [As.blk lb 72 [vt], As.rb 5 vt (t)]) H3 (A := As.blk b0_1 5 [.int .u8 101]) (.head _) (R := fun w1 => IB w1 (.slice (some ⟨b0_1, 0, none⟩) 1 1) [101]) (fun w1 h => Z3O h))) ?_
 rintro _ w4 ⟨v1, rfl, hX⟩
 have H4 := hX _ _ _ _ H3
 simp only [Zca, Zna] at H4
 refine Z02 (Z01 (Z00 (Zm (Zm ?_))))
 refine Z0J rfl rfl func39 rfl rfl (.cons rfl .nil) (itoaP n hn w4 (hT _ fun k hk hf => H4.ext.block k hk hf)) ?_
 rintro _ w5 ⟨rfl, hG⟩
 have H5 := hG _ _ _ _ H4
 simp only [Zca, Zna] at H5
 refine Z3R H5 rfl rfl underlying9 underlying26 underlying5 rfl (fun v1_3 w6 H6 => ?_)
 have H7 := St.frontL (l := [_, _]) H6
 simp only [Zca, Zna] at H7
 have H8 := St.frontL (l := [_, _]) H7
 simp only [Zca, Zna] at H8
 refine Z0J rfl rfl func16 rfl rfl (.cons rfl (.cons rfl .nil)) (putP lb v1 (t ++ [101]) (by first | omega | (simp; omega)) _ ((Z2S n)) ZO w6 (St.rows (τ := [As.blk lb 72 [v1], As.rb 5 v1 (t ++ [101])]) H8) (St.argR (τ := [As.blk lb 72 [v1], As.rb 5 v1 (t ++ [101])]) H8 (A := As.iv v1_3 (bys (Z2S n))) (.head _) (R := fun w1 => IB w1 v1_3 (Z2S n)) (fun w1 h => h))) ?_
 rintro _ w9 ⟨v2, rfl, hX⟩
 have H9 := hX _ _ _ _ H8
 simp only [Zca, Zna] at H9
 refine Z02 ?_
 try dsimp only
 refine Z3i results21 ?_
 refine ⟨_, rfl, ?_⟩
 have H13 := St.del (.tail (.tail .head)) (St.del (.tail (.tail (.tail .head))) (St.front1 (St.front1 H9)))
 exact ⟨_, rfl, (H13.cast (show _ = [As.blk lb 72 [v2], As.rb 5 v2 (t ++ exT n)] from by unfold exT; simp)).transS⟩
section
variable {P : Program} {N : Nat} {ρ : Env} {w : World} {Q : Z1L} {ops : Array Oper} {rest : List Oper} {d : Nat} {ty : TypeId} {pos : String} {af : Array Edge} {g : Option (Nat × Bool)}
theorem l_indexA {x ix : Operand} {k : IntKind} {i : Int} {j m b : Nat} {T e : TypeId} (hg : Z0s ops ρ g = true) (hN : Nat.blt d N = true) (hT : P.underlying T = some (.array m e)) (hsz : (P.info? e).map (·.size) = some 1)
  (hx : Z0j ρ x = some (.pointer (some ⟨b, 0, none⟩))) (hi : Z0j ρ ix = some (.int k i)) (hij : i = (j : Int)) (hb : j < m)
  (nx : RunL P N ops Q rest ((d, .pointer (some ⟨b, j, none⟩)) :: ρ) w) : RunL P N ops Q (⟨some d, .indexAddr T x ix, ty, pos, af, g⟩ :: rest) ρ w := by
 subst hij
 exact Z10 hg rfl hN (fun a ha => by
  cases hq : P.info? e with
  | none => simp [hq] at hsz
  | some inf =>
   have h1 : inf.size = 1 := by simpa [hq] using hsz
   have h2 : (⟨b, 0, none⟩ : Addr).add j = ⟨b, j, none⟩ := by rw [Lib.add_plain, Nat.zero_add]
   simp [execOp, ha.eval hx, ha.eval hi, Instr.indexAt, Instr.sureAddr, asIntOf, run_underlying hT, hb, sizeOf, typeInfo, hq, h1, h2]) nx
theorem l_sliceA {x hi : Operand} {k : IntKind} {i : Int} {h m b : Nat} {T e : TypeId} (hg : Z0s ops ρ g = true) (hN : Nat.blt d N = true) (hT : P.underlying T = some (.array m e)) (hsz : (P.info? e).map (·.size) = some 1)
  (hx : Z0j ρ x = some (.pointer (some ⟨b, 0, none⟩))) (he : Z0j ρ hi = some (.int k i)) (hij : i = (h : Int)) (hb : h ≤ m)
  (nx : RunL P N ops Q rest ((d, .slice (some ⟨b, 0, none⟩) h m) :: ρ) w) : RunL P N ops Q (⟨some d, .slice T x none (some hi) none, ty, pos, af, g⟩ :: rest) ρ w := by
 subst hij
 exact Z10 hg rfl hN (fun a ha => by
  cases hq : P.info? e with
  | none => simp [hq] at hsz
  | some inf =>
   have h1 : inf.size = 1 := by simpa [hq] using hsz
   have h2 : (⟨b, 0, none⟩ : Addr).add 0 = ⟨b, 0, none⟩ := by rw [Lib.add_plain]
   simp [execOp, ha.eval hx, ha.eval he, Instr.sliceAt, Instr.sureAddr, Instr.sliceBounds, Instr.sliceBound, asIntOf, run_underlying hT, hb, sizeOf, typeInfo, hq, h1, h2]) nx
end
theorem setAt_of : ∀ {cs : List Value} {o : Nat} (h : o < cs.length) (x : Value), Z14 cs o x (cs.set o x)
 | c :: cs, 0, _, x => .zero
 | c :: cs, o + 1, h, x => .succ (setAt_of (cs := cs) (o := o) (by simpa using h) x)
theorem dtx_ten {z : Int} (h : 9 < z) : (dtx z).length = (dtx (z / 10)).length + 1 := by
 rw [Z3w (by omega), Z3w (by omega), Z4t (by omega)]
theorem dtx_one {z : Int} (h0 : 0 ≤ z) (h : ¬ 9 < z) : (dtx z).length = 1 := by
 rcases Int.lt_or_eq_of_le h0 with h1 | h1
 ·rw [Z3w h1, Z4t h1, show z / 10 = 0 from by omega, Z57]
 rw [← h1]; rfl
theorem dtx_pos {z : Int} (hz : 0 ≤ z) : 1 ≤ (dtx z).length := by
 unfold dtx
 split
 ·exact Nat.le_refl _
 rcases Int.lt_or_le 0 z with h | h
 ·have := dt0_ne h
  exact List.length_pos_iff.2 this
 omega
theorem dtx_le {x : Int} (hx : 0 ≤ x ∧ x ≤ 18446744073709551615) : (dtx x).length ≤ 20 := by
 rcases Int.lt_or_eq_of_le hx.1 with h1 | h1
 ·rw [Z3w h1]
  exact dl_le hx.1 (by rw [show (10 : Int) ^ 20 = 100000000000000000000 from by decide]; omega)
 rw [← h1]; decide
theorem countD (x : Int) (hx : 0 ≤ x ∧ x ≤ 18446744073709551615) (w : World) :
  Z0h P 38 [.int .u64 x] w fun r w' => r = .int .i64 ((dtx x).length : Int) ∧ w = w' := by
 refine Z0n func38 rfl ntmps38 rfl ?_
 have hdx : (dtx x).length ≤ 20 := dtx_le hx
 refine Z03 (Z00 (Zg (Z02 (Z01 (Z03 (Z00 (Zg (Z02 (Z01 (Z03 (Z0e ?_)))))))))))
 refine Z0y (ι := Nat × Int) (fun (z0 : Nat × Int) => match z0 with | ⟨n, z⟩ => z.toNat) (fun (z0 : Nat × Int) (w' : World) => match z0 with | ⟨n, z⟩ => w = w' ∧ n + (dtx z).length = (dtx x).length + 1 ∧ 0 ≤ z ∧ z ≤ 18446744073709551615 ∧ 1 ≤ n) (fun (z0 : Nat × Int) => match z0 with | ⟨n, z⟩ => [(0, .int .u64 z), (3, .int .i64 (n : Int))]) [] (1, x) ?_ .nil ?_ ?_
 ·exact ⟨rfl, ZO, ZO, ZO, ZO⟩
 ·exact (.cons rfl ZN (.cons rfl ZN .nil))
 rintro ⟨n, z⟩ _ ⟨rfl, hn, hz0, hz1, hn1⟩
 show RunC P _ _ _ (_ :: _) _
 have hdz1 := dtx_pos hz0
 refine Z03 (Z03 (Z00 (Zm ?_)))
 refine Zw ?_
 refine Z02 (Z01 ?_)
 refine Zk [0, 3, 5] ?_
 (first | refine Z0a rfl ?_ ?_ | refine Z06 rfl ?_ ?_) <;> intro hc0
 ·refine Z0c (Z01 (Z0e (Z03 (Z00 (Zm ?_)))))
  refine Z3h rfl rfl rfl rfl ZO (q_u64 ZO) ?_
  refine Zg (Z02 (Z01 ?_))
  refine Zk [0, 3] ?_
  refine Z00 (Zm ?_)
  refine Z0w rfl rfl rfl rfl (Z0i ZO) ?_
  refine Zg (Z02 ?_)
  refine Z0C ?_
  refine Z0r (i := (n, z)) (n + 1, z / 10) ?_ ?_ .nil ?_
  ·first | omega | (simp; omega)
  ·have hdz := dtx_ten (z := z) ZO
   exact ⟨rfl, ZO, ZO, ZO, ZO⟩
  exact (.cons rfl ZN (.cons rfl ZN .nil))
 refine Z0E ?_
 refine Z07 ?_
 refine Z07 ?_
 refine Z0l ?_
 refine Z01 (Z03 (Z00 (Zm (Zg (Z02 (Z01 ?_))))))
 refine Zk [2] ?_
 refine Z0f ?_
 refine Z0q results38 rfl ?_
 refine ⟨_, rfl, ?_⟩
 have h1 := dtx_one (z := z) hz0 ZO
 exact ⟨congrArg (Value.int .i64) ZO, rfl⟩
theorem Z3H {x : Int} (h : 9 < x) : dtx x = dtx (x / 10) ++ [dig (x % 10)] := by
 unfold dtx
 rw [if_neg (by omega), if_neg (by omega), Z24 (by omega)]
theorem dtx_sm {x : Int} (h0 : 0 ≤ x) (h : ¬ 9 < x) : dtx x = [dig x] := by
 rcases Int.lt_or_eq_of_le h0 with h1 | h1
 ·unfold dtx
  rw [if_neg ZO, Z24 h1, show x / 10 = 0 from by omega, show (0 : Int).toNat = 0 from rfl, Z1w, show x % 10 = x from by omega]
  rfl
 rw [← h1]; rfl
theorem dtx_at : ∀ (k : Nat) {x : Int}, 0 ≤ x → k < (dtx x).length → (dtx x).getD ((dtx x).length - 1 - k) 0 = dig (x / 10 ^ k % 10)
 | 0, x, h0, hk => by
  rcases Int.lt_or_le 9 x with h | h
  ·rw [Z3H h]
   simp
  rw [dtx_sm h0 ZO]
  simp
  rw [show x % 10 = x from by omega]
 | k + 1, x, h0, hk => by
  rcases Int.lt_or_le 9 x with h | h
  ·have ih := dtx_at k (x := x / 10) ZO (by rw [Z3H h] at hk; simp at hk; omega)
   have e : x / 10 / 10 ^ k = x / 10 ^ (k + 1) := by rw [Int.ediv_ediv_of_nonneg ZO, Int.pow_succ, Int.mul_comm]
   rw [e] at ih
   rw [← ih, Z3H h]
   have hk2 : k < (dtx (x / 10)).length := by rw [Z3H h] at hk; simp at hk; omega
   simp only [List.length_append, List.length_cons, List.length_nil]
   rw [show (dtx (x / 10)).length + (0 + 1) - 1 - (k + 1) = (dtx (x / 10)).length - 1 - k from by omega]
   simp only [List.getD_eq_getElem?_getD]
   rw [List.getElem?_append_left ZO]
  rw [dtx_sm h0 ZO] at hk
  simp at hk
theorem bys_set' (l : List UInt8) (j : Nat) (x : UInt8) : bys (l.set j x) = (bys l).set j (.int .u8 (x.toNat : Int)) := by
 unfold bys
 rw [List.map_set]
theorem take_is {cs D : List UInt8} (h : D.length ≤ cs.length) (k : ∀ j, j < D.length → cs.getD j 0 = D.getD j 0) : cs.take D.length = D := by
 apply List.ext_getElem (by simp; omega)
 intro j h1 h2
 have := k j h2
 simp only [List.getD_eq_getElem?_getD] at this
 rw [List.getElem?_eq_getElem ZO, List.getElem?_eq_getElem h2] at this
 simpa using this
theorem padD (x : Int) (hx : 0 ≤ x ∧ x ≤ 18446744073709551615) (w : World) :
  Z0h P 37 [.int .u64 x, .int .i64 ((dtx x).length : Int)] w fun r w' => ∃ v, r = .tuple #[v, .int .i64 0] ∧ Grow w w' [As.rb 5 v (dtx x)] := by
 refine Z0n func37 rfl ntmps37 rfl ?_
 have H0 := St.start w
 have hn20 := dtx_le hx
 have hn1 := dtx_pos hx.1
 refine Z03 (Z00 (Zg (Zg (Z02 (Z01 (Z03 (Z0e (Z03 (Z00 (Zm ?_))))))))))
 refine Zl ?_
 refine Zm ?_
 apply l_or 2 [0, 1] rfl rfl (.cons rfl (.cons rfl (.cons rfl .nil))) rfl rfl (fun _ => rfl) rfl rfl rfl
 ·intro hg1_3
  refine Zm ?_
  refine Zw ?_
  refine Z02 ?_
  exact Z0o rfl (.cons rfl (ZF hg1_3) (.cons rfl rfl (.cons rfl rfl .nil)))
 refine Zg (Z02 (Z01 ?_))
 refine Zk [0, 1, 8] ?_
 (first | refine Z0a rfl ?_ ?_ | refine Z06 rfl ?_ ?_) <;> intro hc0
 ·exact absurd hc0 ZO
 refine Z03 (Z00 (Zm ?_))
 refine Zp func38 (countD x hx w) ?_
 refine Zm ?_
 refine Zw ?_
 refine Zg (Z02 (Z01 ?_))
 (first | refine Z0a rfl ?_ ?_ | refine Z06 rfl ?_ ?_) <;> intro hc1
 ·exact absurd hc1 ZO
 refine Z0c ?_
 refine Z0C ?_
 refine Z01 ?_
 refine Zk [0, 1] ?_
 refine Z03 (Z00 ?_)
 refine Z0z H0 ta140 rfl rfl (fun b5_0 w1 H1 => ?_)
 refine Z02 (Z01 (Z03 (Z03 (Z00 (Zm ?_)))))
 refine Z0A rfl rfl rfl rfl (Z0i ZO) ?_
 refine Zg (Z02 (Z01 (Z0e ?_)))
 refine Z0y (ι := Nat × Int × List UInt8) (fun (z0 : Nat × Int × List UInt8) => match z0 with | ⟨k, z, cs⟩ => (dtx x).length - k) (fun (z0 : Nat × Int × List UInt8) (w' : World) => match z0 with | ⟨k, z, cs⟩ => St w w.heap.size Z0G ([As.blk b5_0 140 (bys cs)]) w' ∧ k ≤ (dtx x).length ∧ cs.length = 20 ∧ z = x / 10 ^ k ∧ (∀ j, (dtx x).length - k ≤ j → j < (dtx x).length → cs.getD j 0 = (dtx x).getD j 0)) (fun (z0 : Nat × Int × List UInt8) => match z0 with | ⟨k, z, cs⟩ => [(0, .int .u64 z), (7, .int .i64 (((dtx x).length : Int) - 1 - k))]) [1, 6] (0, x, List.replicate 20 0) ?_ (.cons rfl (.cons rfl .nil)) ?_ ?_
 ·exact ⟨H1, ZO, by simp, by simp, fun j h1 h2 => by omega⟩
 ·exact (.cons rfl ZN (.cons rfl ZN .nil))
 rintro ⟨k, z, cs⟩ w2 ⟨H2, hk, hcl, hz, hdone⟩
 show RunC P _ _ _ (_ :: _) _
 have hz0 : 0 ≤ z := by rw [hz]; exact Int.ediv_nonneg hx.1 (Int.le_of_lt (p10 k))
 have hz1 : z ≤ 18446744073709551615 := by rw [hz]; exact Int.le_trans (Int.ediv_le_self _ hx.1) hx.2
 refine Z03 (Z03 (Z00 (Zm ?_)))
 refine Zh ?_
 refine Z02 (Z01 ?_)
 refine Zk [0, 1, 6, 7, 23] ?_
 (first | refine Z0a rfl ?_ ?_ | refine Z06 rfl ?_ ?_) <;> intro hc2
 ·refine Z0c (Z01 (Z03 (Z0e (Z03 (Z00 (Zm (Zm ?_)))))))
  refine Z2X rfl rfl rfl rfl ZO (Z2Y ZO) ?_
  refine Z0w rfl rfl rfl rfl (Z0I ZO) ?_
  refine Z1G rfl rfl underlying22 underlying5 rfl (w_u8 ZO) ?_
  refine l_indexA (j := (dtx x).length - 1 - k) rfl rfl underlying140 tz5 rfl rfl ZO ZO ?_
  refine Z0p H2 .head (setAt_of (by simp [bys]; omega) _) rfl tz5 rfl rfl rfl (fun w3 H3 => ?_)
  refine Z02 (Z01 ?_)
  refine Zk [0, 1, 6, 7] ?_
  refine Z00 (Zm ?_)
  refine Z3h rfl rfl rfl rfl ZO (q_u64 ZO) ?_
  refine Zg (Z02 ?_)
  refine Z0C ?_
  refine Z01 (Z00 (Zm ?_))
  refine Z0A rfl rfl rfl rfl (Z0i ZO) ?_
  refine Zg (Z02 ?_)
  refine Z0r (i := (k, z, cs)) (k + 1, z / 10, cs.set ((dtx x).length - 1 - k) (dig (z % 10))) ?_ ?_ (.cons rfl (.cons rfl .nil)) ?_
  ·first | omega | (simp; omega)
  ·refine ⟨H3.cast ?_, ZO, by simp [hcl], by rw [hz, Int.ediv_ediv_of_nonneg (Int.le_of_lt (p10 k)), Int.pow_succ], fun j h1 h2 => ?_⟩
   ·rw [bys_set', Z2r ZO]
   by_cases he : j = (dtx x).length - 1 - k
   ·subst he
    rw [dtx_at k hx.1 ZO, ← hz]
    rw [List.getD_eq_getElem?_getD, List.getElem?_set_self ZO]
    rfl
   rw [← hdone j ZO h2]
   simp only [List.getD_eq_getElem?_getD]
   rw [List.getElem?_set_ne ZO]
  exact (.cons rfl ZN (.cons rfl ZN .nil))
 refine Z0E ?_
 refine Z07 ?_
 refine Z07 ?_
 refine Z0l ?_
 refine Z01 ?_
 refine Zk [1, 6] ?_
 refine Z03 (Z00 (Zm ?_))
 refine l_sliceA (h := (dtx x).length) rfl rfl underlying140 tz5 rfl rfl rfl ZO ?_
 have hD := take_is (cs := cs) (D := dtx x) ZO (fun j hj => hdone j ZO hj)
 have hsl : IV w2 (.slice (some ⟨b5_0, 0, none⟩) (dtx x).length 20) (bys (dtx x)) := by
  have h := IV.cut (c := 20) (l := 0) (k := (dtx x).length) (m := 20) (blk_sl (H2.ok mem0)) ZO (by first | (simp [bys]; omega) | (simp [bys, hcl]; done)) ZO
  have e : ((bys cs).take (dtx x).length).drop 0 = bys (dtx x) := by rw [List.drop_zero, bys, ← List.map_take, hD]
  rw [e] at h
  simpa [cutA, Lib.add_plain] using h
 refine Z2m H2 rfl rfl underlying26 ti5 rfl rfl rfl (by first | exact H2.ibl mem0 | assumption) (by first | exact Z2V _ _ | exact Z3T _ | simp [Value.oneCell']) (by first | (simp; done) | (simp; omega)) (by first | (simp; done) | (simp; omega)) (fun v11_2 w4 H4 => ?_)
 refine Zg (Zg (Z02 (Z01 ?_)))
 refine Z0f ?_
 refine Z0t results37 rfl rfl ?_
 refine ⟨_, rfl, ?_⟩
 have H5 := St.del (.tail .head) H4
 exact ⟨_, rfl, H5.grows⟩
theorem textD (x : Int) (hx : 0 ≤ x ∧ x ≤ 18446744073709551615) (w : World) :
  Z0h P 18 [.int .u64 x] w fun r w' => ∃ v, r = v ∧ Grow w w' [As.rb 5 v (dtx x)] := by
 refine Z0n func18 rfl ntmps18 rfl ?_
 have H0 := St.start w
 refine Z03 (Z00 (Zg (Z02 (Z01 (Z03 (Z00 (Zm (Zm ?_))))))))
 refine Zp func38 (countD x hx w) ?_
 refine Zc func37 (padD x hx w) ?_
 rintro _ w1 ⟨v, rfl, hG⟩
 have H1 := hG _ _ _ _ H0
 simp only [Zca, Zna] at H1
 refine Zm ?_
 refine Zx (Zx (Zg (Zg (Z02 (Z01 ?_)))))
 refine Zk [3] ?_
 refine Z03 (Z00 (Zm (Zg (Z02 (Z01 ?_)))))
 refine Z0f ?_
 refine Z0q results18 rfl ?_
 refine ⟨_, rfl, ?_⟩
 exact ⟨_, rfl, H1.grows⟩
theorem spl_bd {d : Kd} {b : Int} (hb : 0 ≤ b ∧ b < d.I) : 0 ≤ splM d b ∧ splM d b < 9007199254740992 ∧ -1074 ≤ splE d b ∧ splE d b ≤ 971 := by
 rcases Int.lt_or_eq_of_le hb.1 with h | h
 ·have h1 := Z56 ⟨h, hb.2⟩
  have h2 := Z2C ⟨h, hb.2⟩
  omega
 subst h
 have hbd := d.bd
 unfold splM splE
 rw [Int.zero_emod, if_pos ZO, if_pos ZO]
 cases d <;> decide
theorem Z54 {d : Kd} {b : Int} (hb : 0 ≤ b ∧ b < d.I) : 0 ≤ fX d b ∧ Ma.blen (fX d b) ≤ (1100 : Nat) ∧ Ma.blen (fY d b) ≤ (1100 : Nat) := by
 have h := spl_bd hb
 have hM : Ma.blen (splM d b) ≤ (53 : Nat) := (Ma.blen_le_iff h.1 53).2 ZO
 have h2 : ∀ k : Nat, Ma.blen (2 ^ k) ≤ (k + 1 : Nat) := fun k => (Ma.blen_le_iff (Int.le_of_lt (p2_ k)) (k + 1)).2 (by rw [Int.pow_succ]; have := p2_ k; omega)
 refine ⟨Int.mul_nonneg h.1 (Int.le_of_lt (p2_ _)), ?_, ?_⟩
 ·exact Int.le_trans (Z1X h.1 (Int.le_of_lt (p2_ _)) hM (h2 _)) ZO
 exact Int.le_trans (h2 _) ZO
theorem partsP (neg : Bool) (d : Kd) (b e : Int) (hb : 0 ≤ b ∧ b < d.I) (he : -420 ≤ e ∧ e ≤ 420) (w : World) :
  Z0h P 51 [.agg #[.bool neg, .int .u64 (splM d b), .int .i64 (splE d b)], .int .i64 e] w fun r w' => ∃ v l, r = .tuple #[v, .int .i64 (cmpI (2 * (fN (fX d b) (-e) % fD (fY d b) (-e))) (fD (fY d b) (-e)))] ∧ Ma.Cn 18446744073709551616 l (fN (fX d b) (-e) / fD (fY d b) (-e)) ∧ Grow w w' [As.ri 22 .u64 v l] := by
 refine Z0n func51 rfl ntmps51 rfl ?_
 have H0 := St.start w
 have hs := spl_bd hb
 have hxy := Z54 hb
 have hMb : Ma.blen (splM d b) ≤ (53 : Nat) := (Ma.blen_le_iff hs.1 53).2 ZO
 have h1b : Ma.blen 1 = 1 := (by decide)
 have hup := Z2h e.toNat
 have hdn := Z2h (-e).toNat
 have hy0 := Z2H d b
 have hD0 := Z1W hy0 (-e)
 have hN0 := Z1C hxy.1 (-e)
 have hNb := Z4h hxy.1 (e := -e) ZO ZO
 have hDb := fD_blen hy0 (e := -e) ZO ZO
 refine Z03 (Z00 ?_)
 refine Z1z H0 rfl rfl rfl (fun b0_0 w1 H1 => ?_)
 refine Zg (Zg (Z02 (Z01 (Z03 ?_))))
 have H2 := H1.drewn
 refine Z1t (n := 12) [Zz,Zz,Zz,Zz,Zz,Zz,Zz,Zz,Zz,Zz,Zz,Zz] (fun wS => (As.blk b0_0 68 [.bool neg, .int .u64 (splM d b), .int .i64 (splE d b)]).ok wS) ZK rfl rfl ?_
 apply Zu (L' := [Zy,Zz,Zz,Zz,Zz,Zz,Zz,Zz,Zz,Zz,Zz,Zz]) 0 (H2.ok mem0)
 ·intro wS sS
  refine Z08 Z27 rfl rfl rfl (Z02 ?_)
  exact Z0d rfl
 apply Zu (L' := [Zy,Zy,Zz,Zz,Zz,Zz,Zz,Zz,Zz,Zz,Zz,Zz]) 1 (H2.ok mem0)
 ·intro wS sS
  refine Z04 (Z0R sS) mem0 rfl rfl underlying22 rfl rfl rfl ?_
  refine Z02 ?_
  exact Z0d rfl
 apply Zu (L' := [Zy,Zy,Zz,Zy,Zz,Zz,Zz,Zz,Zz,Zz,Zz,Zz]) 3 (H2.ok mem0)
 ·intro wS sS
  refine Z08 Z28 rfl rfl rfl (Z02 ?_)
  exact Z0d rfl
 apply Zu (L' := [Zy,Zy,Zz,Zy,Zy,Zz,Zz,Zz,Zz,Zz,Zz,Zz]) 4 (H2.ok mem0)
 ·intro wS sS
  refine Z04 (Z0R sS) mem0 rfl rfl underlying3 rfl rfl rfl ?_
  refine Z02 ?_
  exact Z0d rfl
 refine a_two (L' := [Zy,Zy,Zy,Zy,Zy,Zz,Zz,Zz,Zz,Zz,Zz,Zz]) (L'' := [Zy,Zy,Zz,Zy,Zy,Zy,Zz,Zz,Zz,Zz,Zz,Zz]) 2 5 ZK rfl rfl rfl rfl ?_ ?_
 ·refine Zc func57 (ofN (splM d b) ZO w1.drew) ?_
  rintro vm w3 ⟨_, lm, rfl, hcm, hG⟩
  have H3 := hG _ _ _ _ H2
  simp only [Zca, Zna] at H3
  have hlm := Z0Y hcm hMb
  refine Z02 ?_
  refine Z0F (H3.ok mem1) ?_
  refine Z0O (L' := [Zy,Zy,Zy,Zy,Zy,Zy,Zz,Zz,Zz,Zz,Zz,Zz]) 5 ZK rfl rfl ?_
  refine Z1m rfl rfl rfl rfl ?_
  refine Z02 ?_
  refine Z0F (H3.ok mem1) ?_
  refine Z0O (L' := [Zy,Zy,Zy,Zy,Zy,Zy,Zy,Zz,Zz,Zz,Zz,Zz]) 6 ZK rfl rfl ?_
  refine Z0u (s := 22) (v' := .int .i64 (((splE d b).toNat : Nat) : Int)) rfl (congrArg (Value.int _) ZO) ?_
  refine Zc func56 (shlY (k := (splE d b).toNat) hcm ZO ZO (H3.io mem0)) ?_
  rintro _ w4 ⟨vn, ln, rfl, hcn, hG⟩
  have H4 := hG _ _ _ _ H3
  simp only [Zca, Zna] at H4
  refine Z02 ?_
  refine Z0F (H4.ok mem2) ?_
  apply Zu (L' := [Zy,Zy,Zy,Zy,Zy,Zy,Zy,Zy,Zz,Zz,Zz,Zz]) 7 (H4.ok mem2)
  ·intro wS sS
   refine Zm (Z02 ?_)
   exact Z0d rfl
  apply Zu (L' := [Zy,Zy,Zy,Zy,Zy,Zy,Zy,Zy,Zy,Zz,Zz,Zz]) 8 (H4.ok mem2)
  ·intro wS sS
   refine Zx (Z02 ?_)
   exact Z0d rfl
  apply Zu (L' := [Zy,Zy,Zy,Zy,Zy,Zy,Zy,Zy,Zy,Zy,Zz,Zz]) 9 (H4.ok mem2)
  ·intro wS sS
   refine Zx (Z02 ?_)
   exact Z0d rfl
  apply Zu (L' := [Zy,Zy,Zy,Zy,Zy,Zy,Zy,Zy,Zy,Zy,Zy,Zz]) 10 (H4.ok mem2)
  ·intro wS sS
   refine Zg (Z02 ?_)
   exact Z0d rfl
  apply Zu (L' := [Zy,Zy,Zy,Zy,Zy,Zy,Zy,Zy,Zy,Zy,Zy,Zy]) 11 (H4.ok mem2)
  ·intro wS sS
   refine Zg (Z02 ?_)
   exact Z0d rfl
  refine Z0W ZK ?_
  refine Z01 ?_
  refine Zk [1, 2, 6] ?_
  refine Z03 (Z00 ?_)
  refine Z1D H4 rfl rfl underlying105 ti22 rfl (.cons rfl ZR .nil) rfl rfl rfl (fun b2_0 w5 H5 => ?_)
  refine Z08 Z28 rfl rfl rfl ?_
  refine Z04 H5 mem3 rfl rfl underlying3 rfl rfl rfl ?_
  refine Z1K rfl rfl rfl (Z0i ZO) ?_
  refine Z1m rfl rfl rfl rfl ?_
  refine Z0u (s := 31) (v' := .int .i64 (((-(splE d b)).toNat : Nat) : Int)) rfl (congrArg (Value.int _) ZO) ?_
  refine Zc func56 (shlY (k := (-(splE d b)).toNat) Cn1 (by simp) ZO (H5.ibl mem0)) ?_
  rintro _ w6 ⟨vd, ld, rfl, hcd, hG⟩
  have H6 := hG _ _ _ _ H5
  simp only [Zca, Zna] at H6
  have hcd2 : Ma.Cn 18446744073709551616 ld (fY d b) := by rw [Int.one_mul] at hcd; exact hcd
  refine Zm ?_
  refine Zx (Zx (Zg (Zg (Z02 (Z01 (Z03 (Z00 (Zm ?_))))))))
  refine Z1m rfl rfl rfl rfl ?_
  refine Z0u (s := 37) (v' := .int .i64 ((e.toNat : Nat) : Int)) rfl (congrArg (Value.int _) ZO) ?_
  refine Zc func78 (Z4r (e).toNat ZO w6) ?_
  rintro _ w7 ⟨vu, lu, rfl, hcu, hG⟩
  have H7 := hG _ _ _ _ H6
  simp only [Zca, Zna] at H7
  refine Zm ?_
  refine Zx (Zx (Zg (Zg (Z02 (Z01 ?_)))))
  refine Zk [1, 6, 8, 10] ?_
  refine Z03 (Z00 (Zm ?_))
  refine Z1K rfl rfl rfl (Z0i ZO) ?_
  refine Z1m rfl rfl rfl rfl ?_
  refine Z0u (s := 44) (v' := .int .i64 (((-e).toNat : Nat) : Int)) rfl (congrArg (Value.int _) ZO) ?_
  refine Zc func78 (Z4r (-e).toNat ZO w7) ?_
  rintro _ w8 ⟨vv, lv, rfl, hcv, hG⟩
  have H8 := hG _ _ _ _ H7
  simp only [Zca, Zna] at H8
  refine Zm ?_
  refine Zx (Zx (Zg (Zg (Z02 (Z01 (Z03 (Z00 (Zm (Zm ?_)))))))))
  refine Zc func60 (mulZ (m := 1100) (n := 1681) hcn hcu (by exact hxy.2.1) ZO ZO (H8.io mem4) (H8.io mem1)) ?_
  rintro _ w9 ⟨vn2, ln2, rfl, hcn2, hG⟩
  have H9 := hG _ _ _ _ H8
  simp only [Zca, Zna] at H9
  have hcN : Ma.Cn 18446744073709551616 ln2 (fN (fX d b) (-e)) := by unfold fN; rw [Int.neg_neg]; exact hcn2
  have hllN := Z0Y hcN hNb
  refine Zm ?_
  refine Zx (Zx (Zg (Z02 (Z01 ?_))))
  refine Zk [6, 8, 12] ?_
  refine Z03 (Z00 (Zm (Zm ?_)))
  refine Zc func60 (mulZ (m := 1100) (n := 1681) hcd2 hcv (by exact hxy.2.2) ZO ZO (H9.io mem3) (H9.io mem1)) ?_
  rintro _ w10 ⟨vd2, ld2, rfl, hcd3, hG⟩
  have H10 := hG _ _ _ _ H9
  simp only [Zca, Zna] at H10
  have hcD : Ma.Cn 18446744073709551616 ld2 (fD (fY d b) (-e)) := hcd3
  have hllD := Z0Y hcD hDb
  refine Zm ?_
  refine Zx (Zx (Zg (Z02 (Z01 (Z03 (Z00 (Zm (Zm ?_))))))))
  refine Zc func61 (divZ hcN hcD ZO ZO ZO ZO ZO (H10.io mem1) (H10.io mem0)) ?_
  rintro _ w11 ⟨vq, vr, lq, lr, rfl, hcq, hcr, hG⟩
  have H11 := hG _ _ _ _ H10
  simp only [Zca, Zna] at H11
  have hrb := Int.emod_lt_of_pos (fN (fX d b) (-e)) hD0
  have hr0 := Int.emod_nonneg (fN (fX d b) (-e)) (show fD (fY d b) (-e) ≠ 0 by omega)
  have hblr := Ma.blen_mono hr0 (Int.le_of_lt hrb)
  have hllr := Z0Y hcr (k := 2881) ZO
  refine Zm ?_
  refine Zx (Zx (Zx (Zg (Zg (Zg (Z02 (Z01 ?_)))))))
  refine Zk [4, 8, 14] ?_
  refine Z03 (Z00 (Zm ?_))
  refine Zc func56 (shlY (k := 1) hcr ZO ZO (H11.io mem1)) ?_
  rintro _ w12 ⟨vs, ls, rfl, hcs, hG⟩
  have H12 := hG _ _ _ _ H11
  simp only [Zca, Zna] at H12
  have hcs2 : Ma.Cn 18446744073709551616 ls (2 * (fN (fX d b) (-e) % fD (fY d b) (-e))) := by
   have := hcs
   rw [show fN (fX d b) (-e) % (fD (fY d b) (-e)) * 2 ^ 1 = 2 * (fN (fX d b) (-e) % fD (fY d b) (-e)) from by omega] at this
   exact this
  have hblq : Ma.blen (2 * (fN (fX d b) (-e) % fD (fY d b) (-e))) ≤ (2883 : Nat) := by
   have := Z1X (x := fN (fX d b) (-e) % fD (fY d b) (-e)) (y := 2) hr0 ZO (m := 2881) (n := 2) ZO (by decide)
   rw [Int.mul_comm] at this
   exact this
  have hlls := Z0Y hcs2 (k := 2883) ZO
  refine Zm ?_
  refine Zx (Zx (Zg (Z02 (Z01 (Z03 (Z00 (Zm (Zm (Zm ?_)))))))))
  refine Zc func62 (cmpN vs vd2 ls ld2 (cnU hcs) (cnU hcD) ZO ZO w12 (H12.io mem0) (H12.io mem3)) ?_
  rintro _ w13 ⟨rfl, hG⟩
  have H13 := hG _ _ _ _ H12
  simp only [Zca, Zna] at H13
  refine Zg (Zg (Z02 (Z01 ?_)))
  refine Zk [4, 5] ?_
  refine Z0f ?_
  refine Z0t results51 rfl rfl ?_
  refine ⟨_, rfl, ?_⟩
  have H25 := St.del (.tail .head) (St.del (.tail (.tail .head)) (St.del (.tail (.tail (.tail .head))) (St.del (.tail (.tail (.tail (.tail .head)))) (St.del (.tail (.tail (.tail (.tail (.tail .head))))) (St.del (.tail (.tail (.tail (.tail (.tail (.tail .head)))))) (St.del (.tail (.tail (.tail (.tail (.tail (.tail (.tail .head))))))) (St.del (.tail (.tail (.tail (.tail (.tail (.tail (.tail (.tail .head)))))))) (St.del (.tail (.tail (.tail (.tail (.tail (.tail (.tail (.tail (.tail .head))))))))) (St.del (.tail (.tail (.tail (.tail (.tail (.tail (.tail (.tail (.tail (.tail .head)))))))))) (St.del (.tail (.tail (.tail (.tail (.tail (.tail (.tail (.tail (.tail (.tail (.tail .head))))))))))) (St.front1 H13)))))))))))
  refine ⟨vq, lq, ?_, hcq, H25.grows⟩
  rw [← hcs2.val, ← hcD.val]
  all_goals rfl
 refine Z1m rfl rfl rfl rfl ?_
 refine Z02 ?_
 refine Z0F (H2.ok mem0) ?_
 refine Z0O (L' := [Zy,Zy,Zy,Zy,Zy,Zy,Zz,Zz,Zz,Zz,Zz,Zz]) 2 ZK rfl rfl ?_
 refine Zc func57 (ofN (splM d b) ZO w1.drew) ?_
 rintro vm w26 ⟨_, lm, rfl, hcm, hG⟩
 have H26 := hG _ _ _ _ H2
 simp only [Zca, Zna] at H26
 have hlm := Z0Y hcm hMb
 refine Z02 ?_
 refine Z0F (H26.ok mem1) ?_
 refine Z0O (L' := [Zy,Zy,Zy,Zy,Zy,Zy,Zy,Zz,Zz,Zz,Zz,Zz]) 6 ZK rfl rfl ?_
 refine Z0u (s := 22) (v' := .int .i64 (((splE d b).toNat : Nat) : Int)) rfl (congrArg (Value.int _) ZO) ?_
 refine Zc func56 (shlY (k := (splE d b).toNat) hcm ZO ZO (H26.io mem0)) ?_
 rintro _ w27 ⟨vn, ln, rfl, hcn, hG⟩
 have H27 := hG _ _ _ _ H26
 simp only [Zca, Zna] at H27
 refine Z02 ?_
 refine Z0F (H27.ok mem2) ?_
 apply Zu (L' := [Zy,Zy,Zy,Zy,Zy,Zy,Zy,Zy,Zz,Zz,Zz,Zz]) 7 (H27.ok mem2)
 ·intro wS sS
  refine Zm (Z02 ?_)
  exact Z0d rfl
 apply Zu (L' := [Zy,Zy,Zy,Zy,Zy,Zy,Zy,Zy,Zy,Zz,Zz,Zz]) 8 (H27.ok mem2)
 ·intro wS sS
  refine Zx (Z02 ?_)
  exact Z0d rfl
 apply Zu (L' := [Zy,Zy,Zy,Zy,Zy,Zy,Zy,Zy,Zy,Zy,Zz,Zz]) 9 (H27.ok mem2)
 ·intro wS sS
  refine Zx (Z02 ?_)
  exact Z0d rfl
 apply Zu (L' := [Zy,Zy,Zy,Zy,Zy,Zy,Zy,Zy,Zy,Zy,Zy,Zz]) 10 (H27.ok mem2)
 ·intro wS sS
  refine Zg (Z02 ?_)
  exact Z0d rfl
 apply Zu (L' := [Zy,Zy,Zy,Zy,Zy,Zy,Zy,Zy,Zy,Zy,Zy,Zy]) 11 (H27.ok mem2)
 ·intro wS sS
  refine Zg (Z02 ?_)
  exact Z0d rfl
 refine Z0W ZK ?_
 refine Z01 (Z03 (Z00 ?_))
 refine Z1D H27 rfl rfl underlying105 ti22 rfl (.cons rfl ZR .nil) rfl rfl rfl (fun b2_0 w28 H28 => ?_)
 refine Z08 Z28 rfl rfl rfl ?_
 refine Z04 H28 mem3 rfl rfl underlying3 rfl rfl rfl ?_
 refine Z1K rfl rfl rfl (Z0i ZO) ?_
 refine Z1m rfl rfl rfl rfl ?_
 refine Z0u (s := 31) (v' := .int .i64 (((-(splE d b)).toNat : Nat) : Int)) rfl (congrArg (Value.int _) ZO) ?_
 refine Zc func56 (shlY (k := (-(splE d b)).toNat) Cn1 (by simp) ZO (H28.ibl mem0)) ?_
 rintro _ w29 ⟨vd, ld, rfl, hcd, hG⟩
 have H29 := hG _ _ _ _ H28
 simp only [Zca, Zna] at H29
 have hcd2 : Ma.Cn 18446744073709551616 ld (fY d b) := by rw [Int.one_mul] at hcd; exact hcd
 refine Zm ?_
 refine Zx (Zx (Zg (Zg (Z02 (Z01 ?_)))))
 refine Zk [1, 6, 8] ?_
 refine Z03 (Z00 (Zm ?_))
 refine Z1m rfl rfl rfl rfl ?_
 refine Z0u (s := 37) (v' := .int .i64 ((e.toNat : Nat) : Int)) rfl (congrArg (Value.int _) ZO) ?_
 refine Zc func78 (Z4r (e).toNat ZO w29) ?_
 rintro _ w30 ⟨vu, lu, rfl, hcu, hG⟩
 have H30 := hG _ _ _ _ H29
 simp only [Zca, Zna] at H30
 refine Zm ?_
 refine Zx (Zx (Zg (Zg (Z02 (Z01 (Z03 (Z00 (Zm ?_))))))))
 refine Z1K rfl rfl rfl (Z0i ZO) ?_
 refine Z1m rfl rfl rfl rfl ?_
 refine Z0u (s := 44) (v' := .int .i64 (((-e).toNat : Nat) : Int)) rfl (congrArg (Value.int _) ZO) ?_
 refine Zc func78 (Z4r (-e).toNat ZO w30) ?_
 rintro _ w31 ⟨vv, lv, rfl, hcv, hG⟩
 have H31 := hG _ _ _ _ H30
 simp only [Zca, Zna] at H31
 refine Zm ?_
 refine Zx (Zx (Zg (Zg (Z02 (Z01 ?_)))))
 refine Zk [6, 8, 10, 12] ?_
 refine Z03 (Z00 (Zm (Zm ?_)))
 refine Zc func60 (mulZ (m := 1100) (n := 1681) hcn hcu (by exact hxy.2.1) ZO ZO (H31.io mem4) (H31.io mem1)) ?_
 rintro _ w32 ⟨vn2, ln2, rfl, hcn2, hG⟩
 have H32 := hG _ _ _ _ H31
 simp only [Zca, Zna] at H32
 have hcN : Ma.Cn 18446744073709551616 ln2 (fN (fX d b) (-e)) := by unfold fN; rw [Int.neg_neg]; exact hcn2
 have hllN := Z0Y hcN hNb
 refine Zm ?_
 refine Zx (Zx (Zg (Z02 (Z01 (Z03 (Z00 (Zm (Zm ?_))))))))
 refine Zc func60 (mulZ (m := 1100) (n := 1681) hcd2 hcv (by exact hxy.2.2) ZO ZO (H32.io mem3) (H32.io mem1)) ?_
 rintro _ w33 ⟨vd2, ld2, rfl, hcd3, hG⟩
 have H33 := hG _ _ _ _ H32
 simp only [Zca, Zna] at H33
 have hcD : Ma.Cn 18446744073709551616 ld2 (fD (fY d b) (-e)) := hcd3
 have hllD := Z0Y hcD hDb
 refine Zm ?_
 refine Zx (Zx (Zg (Z02 (Z01 ?_))))
 refine Zk [6, 8] ?_
 refine Z03 (Z00 (Zm (Zm ?_)))
 refine Zc func61 (divZ hcN hcD ZO ZO ZO ZO ZO (H33.io mem1) (H33.io mem0)) ?_
 rintro _ w34 ⟨vq, vr, lq, lr, rfl, hcq, hcr, hG⟩
 have H34 := hG _ _ _ _ H33
 simp only [Zca, Zna] at H34
 have hrb := Int.emod_lt_of_pos (fN (fX d b) (-e)) hD0
 have hr0 := Int.emod_nonneg (fN (fX d b) (-e)) (show fD (fY d b) (-e) ≠ 0 by omega)
 have hblr := Ma.blen_mono hr0 (Int.le_of_lt hrb)
 have hllr := Z0Y hcr (k := 2881) ZO
 refine Zm ?_
 refine Zx (Zx (Zx (Zg (Zg (Zg (Z02 (Z01 (Z03 (Z00 (Zm ?_))))))))))
 refine Zc func56 (shlY (k := 1) hcr ZO ZO (H34.io mem1)) ?_
 rintro _ w35 ⟨vs, ls, rfl, hcs, hG⟩
 have H35 := hG _ _ _ _ H34
 simp only [Zca, Zna] at H35
 have hcs2 : Ma.Cn 18446744073709551616 ls (2 * (fN (fX d b) (-e) % fD (fY d b) (-e))) := by
  have := hcs
  rw [show fN (fX d b) (-e) % (fD (fY d b) (-e)) * 2 ^ 1 = 2 * (fN (fX d b) (-e) % fD (fY d b) (-e)) from by omega] at this
  exact this
 have hblq : Ma.blen (2 * (fN (fX d b) (-e) % fD (fY d b) (-e))) ≤ (2883 : Nat) := by
  have := Z1X (x := fN (fX d b) (-e) % fD (fY d b) (-e)) (y := 2) hr0 ZO (m := 2881) (n := 2) ZO (by decide)
  rw [Int.mul_comm] at this
  exact this
 have hlls := Z0Y hcs2 (k := 2883) ZO
 refine Zm ?_
 refine Zx (Zx (Zg (Z02 (Z01 ?_))))
 refine Zk [4, 8, 14] ?_
 refine Z03 (Z00 (Zm (Zm (Zm ?_))))
 refine Zc func62 (cmpN vs vd2 ls ld2 (cnU hcs) (cnU hcD) ZO ZO w35 (H35.io mem0) (H35.io mem3)) ?_
 rintro _ w36 ⟨rfl, hG⟩
 have H36 := hG _ _ _ _ H35
 simp only [Zca, Zna] at H36
 refine Zg (Zg (Z02 (Z01 ?_)))
 refine Z0f ?_
 refine Z0t results51 rfl rfl ?_
 refine ⟨_, rfl, ?_⟩
 have H48 := St.del (.tail .head) (St.del (.tail (.tail .head)) (St.del (.tail (.tail (.tail .head))) (St.del (.tail (.tail (.tail (.tail .head)))) (St.del (.tail (.tail (.tail (.tail (.tail .head))))) (St.del (.tail (.tail (.tail (.tail (.tail (.tail .head)))))) (St.del (.tail (.tail (.tail (.tail (.tail (.tail (.tail .head))))))) (St.del (.tail (.tail (.tail (.tail (.tail (.tail (.tail (.tail .head)))))))) (St.del (.tail (.tail (.tail (.tail (.tail (.tail (.tail (.tail (.tail .head))))))))) (St.del (.tail (.tail (.tail (.tail (.tail (.tail (.tail (.tail (.tail (.tail .head)))))))))) (St.del (.tail (.tail (.tail (.tail (.tail (.tail (.tail (.tail (.tail (.tail (.tail .head))))))))))) (St.front1 H36)))))))))))
 refine ⟨vq, lq, ?_, hcq, H48.grows⟩
 rw [← hcs2.val, ← hcD.val]
 all_goals rfl
theorem roundedP (neg : Bool) (d : Kd) (b e : Int) (hb : 0 ≤ b ∧ b < d.I) (he : -420 ≤ e ∧ e ≤ 420) (w : World) :
  Z0h P 30 [.agg #[.bool neg, .int .u64 (splM d b), .int .i64 (splE d b)], .int .i64 e] w fun r w' => ∃ v, r = v ∧ Grow w w' [As.iv v (bys (dtx (rnE (fN (fX d b) (-e)) (fD (fY d b) (-e)))))] := by
 refine Z0n func30 rfl ntmps30 rfl ?_
 have H0 := St.start w
 have hs := spl_bd hb
 have hxy := Z54 hb
 have hy0 := Z2H d b
 have hD0 := Z1W hy0 (-e)
 have hN0 := Z1C hxy.1 (-e)
 have hNb := Z4h hxy.1 (e := -e) ZO ZO
 have hQ0 : 0 ≤ fN (fX d b) (-e) / fD (fY d b) (-e) := Int.ediv_nonneg hN0 (Int.le_of_lt hD0)
 have hQb := Int.le_trans (Ma.blen_mono hQ0 (Int.ediv_le_self _ hN0)) hNb
 refine Z03 (Z00 ?_)
 refine Z1z H0 rfl rfl rfl (fun b0_0 w1 H1 => ?_)
 refine Zg (Z02 (Z01 (Z03 (Z00 ?_))))
 refine Z0b H1 mem0 rfl rfl underlying68 rfl tz68 rfl (.take (.take (.take .nil))) ?_
 refine Zm ?_
 refine Zc func51 (partsP neg d b e hb he w1) ?_
 rintro _ w2 ⟨vq, lq, rfl, hcq, hG⟩
 have H2 := hG _ _ _ _ H1
 simp only [Zca, Zna] at H2
 have hUq := cnU hcq
 have hllq := Z0Y hcq hQb
 have hlim := limb_of (cnU hcq) 0
 rw [Int.pow_zero, Int.ediv_one, show nv lq = _ from hcq.val] at hlim
 have hodd : fN (fX d b) (-e) / fD (fY d b) (-e) % 2 = 1 → (0 : Int) < (lq.length : Int) := fun h => by
  rcases Nat.eq_zero_or_pos lq.length with h1 | h1
  ·rw [List.eq_nil_of_length_eq_zero h1, show ([] : List Int).getD 0 0 = 0 from rfl] at hlim
   omega
  omega
 have hb1 : Ma.blen (fN (fX d b) (-e) / fD (fY d b) (-e) + 1) ≤ (2900 : Nat) := (Ma.blen_le_iff ZO 2900).2 (by have h1 := (Ma.blen_le_iff hQ0 2881).1 hQb; have h2 := Ma.pow_mono (show (1 : Int) ≤ 2 by omega) (show 2882 ≤ 2900 by omega); have h3 : (2 : Int) ^ 2882 = 2 ^ 2881 * 2 := Int.pow_succ ..; have h4 := p2_ 2881; omega)
 refine Zm ?_
 refine Zx (Zx (Zg (Zg (Z02 (Z01 ?_)))))
 refine Zk [5, 6] ?_
 refine Z03 (Z03 (Z00 (Zm ?_)))
 refine Zw ?_
 refine Zm ?_
 apply l_or (q := (cmpI (2 * (fN (fX d b) (-e) % fD (fY d b) (-e))) (fD (fY d b) (-e)) = 0 ∧ (0 : Int) < (lq.length : Int)) ∧ lq.getD 0 0 % 2 = 1) 14 [5] rfl rfl (.cons rfl (.cons rfl .nil)) rfl rfl (fun _ => rfl) rfl rfl rfl
 ·intro hg2_3
  refine Zm ?_
  refine Ze ?_
  refine Zm ?_
  apply Z1a (q := (0 : Int) < (lq.length : Int)) 3 [5, 15] rfl rfl (.cons rfl (.cons rfl (.cons rfl .nil))) rfl rfl (fun _ => rfl) rfl rfl rfl
  ·intro hg2_6
   refine Zm ?_
   refine Z0K rfl rfl underlying105 rfl (by first | exact H2.io mem0 | exact H2.ibl mem1 | assumption) ?_
   refine Zw ?_
   refine Z02 ?_
   exact Z0o rfl (.cons rfl (ZT hg2_6) (.cons rfl rfl (.cons rfl rfl .nil)))
   all_goals infer_instance
  refine Zm ?_
  apply Z1a (q := lq.getD 0 0 % 2 = 1) 5 [5, 15] rfl rfl (.cons rfl (.cons rfl (.cons rfl .nil))) rfl rfl (fun _ => rfl) rfl rfl rfl
  ·intro hg2_11
   refine Zm ?_
   refine Z17 (j := 0) rfl rfl rfl rfl underlying105 tz22 underlying22 rfl rfl (by first | exact H2.io mem0 | exact H2.ibl mem1 | assumption) ZA rfl ZO ZI (fun hb2_12 => ?_)
   refine Z0U rfl rfl rfl rfl rfl (Z1I 1 (d := 2) ZO ZO (by decide) (by decide)) ?_
   refine Ze ?_
   refine Z02 ?_
   exact Z0o rfl (.cons rfl (ZT hg2_11) (.cons rfl rfl (.cons rfl rfl .nil)))
   all_goals infer_instance
  refine Z02 ?_
  exact Z0o rfl (.cons rfl (ZF hg2_3) (.cons rfl rfl .nil))
  all_goals infer_instance
 refine Z02 (Z01 ?_)
 (first | refine Z0a rfl ?_ ?_ | refine Z06 rfl ?_ ?_) <;> intro hc0
 ·refine Z00 (Zm ?_)
  refine Z1D H2 rfl rfl underlying105 ti22 rfl (.cons rfl ZR .nil) rfl rfl rfl (fun b3_1 w3 H3 => ?_)
  refine Z0J rfl rfl func52 rfl rfl (.cons rfl (.cons rfl .nil)) (addS (cnU hcq) (U.one (x := 1) ZO) ZO (by simp) (by rw [show nv lq = _ from hcq.val]; omega) (by decide) (by rw [show nv lq = _ from hcq.val, show nv [1] = 1 from rfl]; omega) (H3.io mem1) (H3.ibl mem0)) ?_
  rintro _ w4 ⟨vs, ls, rfl, hcs, hG⟩
  have H4 := hG _ _ _ _ H3
  simp only [Zca, Zna] at H4
  have hlls := Z0Y hcs (k := 2900) (by rw [show nv lq = _ from hcq.val]; exact hb1)
  refine Zm ?_
  refine Zx (Zx (Zg (Z02 (Z01 ?_))))
  refine Zk [5] ?_
  refine Z03 (Z00 (Zm ?_))
  refine Zc func53 (textN vs ls (cnU hcs) ZO w4 (H4.io mem0)) ?_
  rintro _ w5 ⟨rfl, hG⟩
  have H5 := hG _ _ _ _ H4
  simp only [Zca, Zna] at H5
  refine Z3R H5 rfl rfl underlying9 underlying26 underlying5 rfl (fun v4_2 w6 H6 => ?_)
  refine Zg (Z02 (Z01 ?_))
  refine Z0f ?_
  refine Z0q results30 rfl ?_
  refine ⟨_, rfl, ?_⟩
  have H10 := St.del (.tail .head) (St.del (.tail (.tail .head)) (St.del (.tail (.tail (.tail .head))) (St.del (.tail (.tail (.tail (.tail .head)))) H6)))
  refine ⟨_, rfl, (H10.cast ?_).grows⟩
  have e : nv ls = rnE (fN (fX d b) (-e)) (fD (fY d b) (-e)) := by
   rw [show nv ls = _ from hcs.val, show nv lq = _ from hcq.val]
   unfold rnE
   rw [if_pos ZO]
   rfl
  rw [e]
 refine Z0c (Z01 ?_)
 refine Zk [5] ?_
 refine Z03 (Z00 (Zm ?_))
 refine Zc func53 (textN vq lq (cnU hcq) ZO w2 (H2.io mem0)) ?_
 rintro _ w11 ⟨rfl, hG⟩
 have H11 := hG _ _ _ _ H2
 simp only [Zca, Zna] at H11
 refine Z3R H11 rfl rfl underlying9 underlying26 underlying5 rfl (fun v4_2 w12 H12 => ?_)
 refine Zg (Z02 (Z01 ?_))
 refine Z0f ?_
 refine Z0q results30 rfl ?_
 refine ⟨_, rfl, ?_⟩
 have H14 := St.del (.tail .head) (St.del (.tail (.tail .head)) H12)
 refine ⟨_, rfl, (H14.cast ?_).grows⟩
 have e : nv lq = rnE (fN (fX d b) (-e)) (fD (fY d b) (-e)) := by
  rw [show nv lq = _ from hcq.val]
  unfold rnE
  rw [if_neg (fun h => hc0 (by rcases h with h | h; exact .inl h; exact .inr ⟨⟨h.1, hodd h.2⟩, ZO⟩))]
 rw [e]
end Go.Proofs.YtfomhfbmmjhljaaGreatDoor.W
