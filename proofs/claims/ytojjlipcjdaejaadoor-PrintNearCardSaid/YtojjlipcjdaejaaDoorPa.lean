/- plain facts: texts of floats -/
import Derived.Shelf.Strconv.Itoa4
import Derived.Shelf.Lay
import Derived.Ground.NamesProg
import Derived.Test.YtojjlipcjdaejaaDoorVb
import Derived.Test.YtojjlipcjdaejaaDoorHa
set_option linter.unusedVariables false
set_option linter.unusedSimpArgs false
set_option maxRecDepth 10000
namespace Go.Proofs.YtojjlipcjdaejaaDoor.W
open Go.Vc Go.RowKit
theorem dl_eq : ∀ {k : Nat} {m : Int}, 10 ^ k ≤ m → m < 10 ^ (k + 1) → dl m = k + 1
 | 0, m, h1, h2 => by
  simp at h1 h2
  rw [dl_pos (by omega), show m / 10 = 0 from by omega, dl_zero]
 | k + 1, m, h1, h2 => by
  have hp := p10 k
  have e1 : (10 : Int) ^ (k + 1) = 10 ^ k * 10 := Int.pow_succ ..
  have e2 : (10 : Int) ^ (k + 1 + 1) = 10 ^ (k + 1) * 10 := Int.pow_succ ..
  rw [dl_pos (by omega), dl_eq (k := k) (m := m / 10) (by omega) (by omega)]
theorem dl_mul {m : Int} (h : 0 < m) : ∀ j : Nat, dl (m * 10 ^ j) = dl m + j
 | 0 => by simp
 | j + 1 => by
  have hp := Int.mul_pos h (p10 j)
  have e : m * 10 ^ (j + 1) = m * 10 ^ j * 10 := by rw [Int.pow_succ, Int.mul_assoc]
  rw [e, dl_pos (by omega), Int.mul_ediv_cancel _ (by omega), dl_mul h j]
  omega
theorem q_zero {x y t e : Int} (hx : 0 ≤ x) (hy : 0 < y) (h : TopR x y t) : fQ x y e = 0 ↔ t < e := by
 have hD := fD_pos hy e
 constructor
 ·intro h0
  rcases Int.lt_or_le t e with h1 | h1
  ·exact h1
  ·have := (Int.le_ediv_iff_mul_le hD (a := 1) (b := fN x e)).2 (by rw [Int.one_mul]; exact h.le hy h1)
   unfold fQ at h0
   omega
 ·intro h1
  have := (fQ_bd hx hy h 0 (e := e) (by omega))
  rw [Int.pow_zero] at this
  omega
theorem size_of {d : Kd} {b m e t : Int} (hb : 0 < b ∧ b < d.I) (h : DigR d b (fX d b) (fY d b) m e) (ht : TopR (fX d b) (fY d b) t) : (dl m : Int) + e - 1 = t ∨ (dl m : Int) + e - 1 = t + 1 := by
 have hmp := (h.bd hb).1
 have hfl := flt_of hb
 obtain ⟨t', f, ⟨h1, h2, h3, h4⟩, h5, j, h6, h7⟩ := h
 obtain rfl := ht.unique hfl.hy h1
 obtain ⟨k, hk⟩ : ∃ k : Nat, t - f = k := ⟨(t - f).toNat, by omega⟩
 have q1 := digs_ge hfl.hy ht k
 have q2 := digs_lt hfl.hy ht (k + 1)
 rw [show t - (k : Int) = f from by omega] at q1
 rw [show t + 1 - ((k + 1 : Nat) : Int) = f from by omega] at q2
 have hq : fQ (fX d b) (fY d b) f = fN (fX d b) f / fD (fY d b) f := rfl
 rw [← hq] at q1 q2
 have hpk : pickM d b (fX d b) (fY d b) f = fQ (fX d b) (fY d b) f ∨ pickM d b (fX d b) (fY d b) f = fQ (fX d b) (fY d b) f + 1 := by
  unfold pickM
  split <;> omega
 have hdl : dl (pickM d b (fX d b) (fY d b) f) = dl m + j := by rw [h6, dl_mul hmp]
 rcases Int.lt_or_le (pickM d b (fX d b) (fY d b) f) (10 ^ (k + 1)) with h8 | h8
 ·have := dl_eq (k := k) (m := pickM d b (fX d b) (fY d b) f) (by omega) h8
  omega
 ·have e2 : (10 : Int) ^ (k + 1 + 1) = 10 ^ (k + 1) * 10 := Int.pow_succ ..
  have := p10 (k + 1)
  have := dl_eq (k := k + 1) (m := pickM d b (fX d b) (fY d b) f) h8 (by omega)
  omega
def rnE (N D : Int) : Int := if 0 < cmpI (2 * (N % D)) D ∨ (cmpI (2 * (N % D)) D = 0 ∧ N / D % 2 = 1) then N / D + 1 else N / D
theorem rnE_bd {N D : Int} : N / D ≤ rnE N D ∧ rnE N D ≤ N / D + 1 := by
 unfold rnE
 split <;> omega
theorem rnE_half {N D : Int} (hD : 0 < D) : 2 * N - D ≤ 2 * (rnE N D * D) ∧ 2 * (rnE N D * D) ≤ 2 * N + D := by
 have k0 := Int.emod_add_mul_ediv N D
 have k1 := Int.emod_nonneg N (show D ≠ 0 by omega)
 have k2 := Int.emod_lt_of_pos N hD
 have e1 : N / D * D = D * (N / D) := Int.mul_comm ..
 unfold rnE
 split
 ·rename_i h
  have : 0 ≤ cmpI (2 * (N % D)) D := by omega
  have := cmpI_ge0.1 this
  rw [Int.add_mul, Int.one_mul, e1]
  omega
 ·rename_i h
  have : ¬ D < 2 * (N % D) := fun h1 => h (.inl (by unfold cmpI; rw [if_neg (by omega), if_pos h1]; omega))
  rw [e1]
  omega
theorem rn_digs {x y t : Int} (hy : 0 < y) (h : TopR x y t) (n : Nat) : dl (rnE (fN x (t - n)) (fD y (t - n))) = n + 1 ∨ (dl (rnE (fN x (t - n)) (fD y (t - n))) = n + 2) := by
 have q1 := digs_ge hy h n
 have q2 := digs_lt hy h (n + 1)
 rw [show t + 1 - ((n + 1 : Nat) : Int) = t - n from by omega] at q2
 have hb := rnE_bd (N := fN x (t - n)) (D := fD y (t - n))
 rcases Int.lt_or_le (rnE (fN x (t - n)) (fD y (t - n))) (10 ^ (n + 1)) with h8 | h8
 ·exact .inl (dl_eq (by omega) h8)
 ·have e2 : (10 : Int) ^ (n + 1 + 1) = 10 ^ (n + 1) * 10 := Int.pow_succ ..
  have := p10 (n + 1)
  exact .inr (dl_eq h8 (by omega))
/-! ### texts -/
def itoaT (n : Int) : List UInt8 := if n < 0 then 45 :: dtx (-n) else dtx n
def zsT (n : Int) : List UInt8 := List.replicate n.toNat 48
def ptT (ds : List UInt8) (n : Int) : List UInt8 := ds.take n.toNat ++ (if n.toNat < ds.length then 46 :: ds.drop n.toNat else [])
def exT (n : Int) : List UInt8 := 101 :: itoaT n
def shT (m e : Int) : List UInt8 :=
 if ((dtx m).length : Int) + e < -5 ∨ 21 < ((dtx m).length : Int) + e then ptT (dtx m) 1 ++ exT (((dtx m).length : Int) + e - 1)
 else if ((dtx m).length : Int) + e < 1 then [48, 46] ++ zsT (-(((dtx m).length : Int) + e)) ++ dtx m
 else if ((dtx m).length : Int) + e < ((dtx m).length : Int) then ptT (dtx m) (((dtx m).length : Int) + e)
 else dtx m ++ zsT e
def padT (ds : List UInt8) (n : Int) : List UInt8 := if (ds.length : Int) ≤ n then zsT (n + 1 - ds.length) ++ ds else ds
def fxT (R n : Int) : List UInt8 := ptT (padT (dtx R) n) ((padT (dtx R) n).length - n)
def sgT (d : Kd) (b : Int) : List UInt8 := if d.S ≤ b then [45] else []
def wdT (d : Kd) (b : Int) (body : List UInt8) : List UInt8 := if d.I < b % d.S then [110, 97, 110] else sgT d b ++ (if b % d.S = d.I then [105, 110, 102] else body)
end Go.Proofs.YtojjlipcjdaejaaDoor.W
namespace Go.Proofs.YtojjlipcjdaejaaDoor
open Go.Shelf Go.Proofs
shelf_lay LaysM.n246 Nm 246 at Tryd as Tryd.lays246
end Go.Proofs.YtojjlipcjdaejaaDoor
namespace Go.Proofs.YtojjlipcjdaejaaDoor.W
open Go.Vc Go.RowKit
section
variable {P : Program} {w0 w w' w1 : World} {B : Nat} {M : Nat → Prop} {σ τ : List As}
theorem St.argR (hw : St w0 B M (τ ++ σ) w) {A : As} (hA : A ∈ σ) {R : World → Prop} (h : ∀ w1, A.ok w1 → R w1) : ∀ w1 : World, (∀ k, k < w.heap.size → ¬ fps τ k → w1.heap[k]? = w.heap[k]?) → R w1 := fun w1 h1 =>
 h w1 (A.loc w w1 (fun k hk => h1 k (hw.sep.lt (List.mem_append_right _ hA) k hk).2 fun ⟨X, hX, hk'⟩ => hw.sep.cross X hX A hA k hk' hk) (hw.sep.ok (List.mem_append_right _ hA)))
theorem St.argE {F : Nat → Prop} {R : World → Prop} (hw : St w0 w0.heap.size F (τ ++ σ) w) (hb : ∀ w1 : World, (∀ k, k < w0.heap.size → ¬ F k → w1.heap[k]? = w0.heap[k]?) → R w1) (hF : ∀ k, k < w0.heap.size → fps τ k → F k) : ∀ w1 : World, (∀ k, k < w.heap.size → ¬ fps τ k → w1.heap[k]? = w.heap[k]?) → R w1 := fun w1 h1 =>
 hb w1 fun k hk hf => (h1 k (Nat.lt_of_lt_of_le hk hw.ext.size) fun h => hf (hF k hk h)).trans (hw.ext.block k hk hf)
theorem St.outE {F : Nat → Prop} (hw : St w0 w0.heap.size F (τ ++ σ) w) : ∀ k, k < w0.heap.size → fps τ k → F k := fun k hk ⟨A, hA, hf⟩ => by
 rcases (hw.sep.lt (List.mem_append_left _ hA) k hf).1 with h | h
 ·omega
 ·exact h
theorem St.argH {F : Nat → Prop} {R : World → Prop} (hw : St w0 w0.heap.size F (τ ++ σ) w) (hb : ∀ w1 : World, (∀ k, k < w0.heap.size → ¬ F k → w1.heap[k]? = w0.heap[k]?) → R w1) : ∀ w1 : World, (∀ k, k < w.heap.size → ¬ fps τ k → w1.heap[k]? = w.heap[k]?) → R w1 := St.argE hw hb (St.outE hw)
theorem St.argW (hw : St w0 B M (τ ++ σ) w) {A : As} (hA : A ∈ σ) {v' : Value} {cs' : List Value} (h : IV w v' cs') (ho : ∀ k, v'.ownBlock = some k → A.fp k) : ∀ w1 : World, (∀ k, k < w.heap.size → ¬ fps τ k → w1.heap[k]? = w.heap[k]?) → IV w1 v' cs' := fun w1 h1 =>
 (As.iv v' cs').loc w w1 (fun k hk => h1 k (hw.sep.lt (List.mem_append_right _ hA) k (ho k hk)).2 fun ⟨X, hX, hk'⟩ => hw.sep.cross X hX A hA k hk' (ho k hk)) h
theorem St.grewN (hw : St w0 B M σ w) (k : Nat) (os : Array Obj) : St w0 B M σ (Sort.grow (w.drewN k) os) := hw.same ⟨rfl, rfl, rfl, by simp [Sort.grow], fun j hj _ => by
 have := Sort.heap_grow_old (w.drewN k) os (k := j) (by exact hj)
 exact this⟩
theorem Grow.grewN (w : World) (k : Nat) (os : Array Obj) : Grow w (Sort.grow (w.drewN k) os) [] := fun _ _ _ _ hw => St.grewN hw k os
end
def TabP (w : World) : Prop := Lib.TabIs P w "internal/strconv.uint64pow10" .u64 Lib.pow10Tab
theorem putP (lb : Nat) (vt : Value) (t : List UInt8) (hL : t.length ≤ 100000) (vb : Value) (u : List UInt8) (hu : u.length ≤ 100000) (w : World) (hS : Sep w.heap.size (fps [As.blk lb 52 [vt], As.rb 5 vt t]) w [As.blk lb 52 [vt], As.rb 5 vt t]) (hvb : ∀ w1 : World, (∀ k, k < w.heap.size → ¬ fps [As.blk lb 52 [vt], As.rb 5 vt t] k → w1.heap[k]? = w.heap[k]?) → IB w1 vb u) :
  CallsV P 26 [.pointer (some ⟨lb, 0, none⟩), vb] w fun r w' => ∃ vt', r = .tuple #[] ∧ Trans w w' [As.blk lb 52 [vt], As.rb 5 vt t] [As.blk lb 52 [vt'], As.rb 5 vt' (t ++ u)] := by
 refine enterW Tryd.func26 rfl Tryd.ntmps26 rfl ?_
 have hw0 := St.startS hS
 have hw0 : St w w.heap.size (fps [As.blk lb 52 [vt], As.rb 5 vt t]) [As.blk lb 52 [vt], As.rb 5 vt t] w := hw0
 have hbt : (bys t).length = t.length := by simp [bys]
 have hbu : (bys u).length = u.length := by simp [bys]
 refine c_region (l_move rfl rfl rfl (l_move rfl rfl rfl (l_nilCheck rfl rfl rfl (l_field fo52_0 rfl rfl rfl ?_))))
 refine l_load_blk hw0 mem0 rfl rfl Tryd.underlying25 rfl rfl rfl ?_
 refine l_move rfl rfl rfl ?_
 have hw1 := St.front1 hw0
 try clear hw0
 refine v_append0 hw1 rfl rfl Tryd.underlying25 ti5 rfl rfl rfl (by first | exact hw1.io mem0 | exact hw1.ibl mem1 | exact hw1.ikM hvb | assumption) (by first | exact ints_one _ _ | exact bys_one _ | simp [Value.oneCell']) (by first | (simp; done) | (simp; omega)) (by first | (simp; done) | (simp; omega)) (fun v0_6 w2 hw2 => ?_)
 try clear hw1
 have h06 : v0_6.oneCell' = true := by
  obtain ⟨A, c, e, _⟩ := hw2.io mem0
  rw [e]
  rfl
 refine l_nilCheck rfl rfl rfl (l_field fo52_0 rfl rfl rfl ?_)
 refine l_store_blk hw2 (.tail .head) (by repeat (first | exact .zero | apply SetAt.succ)) rfl tz25 rfl rfl (by first | rfl | assumption) (fun w3 hw3 => ?_)
 try clear hw2
 refine l_nil ?_
 try dsimp only
 refine e_done0 Tryd.results26 ?_
 refine ⟨_, rfl, ?_⟩
 have hw4 := St.front1 hw3
 try clear hw3
 have happ : bys t ++ bys u = bys (t ++ u) := by simp [bys]
 exact ⟨_, rfl, (hw4.cast (show _ = [As.blk lb 52 [v0_6], As.rb 5 v0_6 (t ++ u)] from by rw [As.rb, ← happ])).transS⟩
theorem dec_eq (u : Nat) : Lib.decDigits u = dtx (u : Int) := by
 induction u using Nat.strongRecOn with
 | ind u ih =>
  unfold Lib.decDigits
  split
  ·rename_i h
   rcases Nat.eq_zero_or_pos u with h0 | h0
   ·subst h0; rfl
   ·unfold dtx
    rw [if_neg (by omega), dt0_pos (by omega), show ((u : Int) / 10).toNat = 0 from by omega, dt0_zero]
    unfold dig
    rw [show ((u : Int) % 10).toNat = u from by omega]
    rfl
  ·rename_i h
   rw [ih (u / 10) (by omega)]
   unfold dtx
   rw [if_neg (by omega), if_neg (by omega), dt0_pos (n := (u : Int)) (by omega)]
   unfold dig
   rw [show ((u : Int) % 10).toNat = u % 10 from by omega, show (((u / 10 : Nat) : Int)) = (u : Int) / 10 from by omega]
theorem itoa_eq (n : Int) : Lib.itoa n = itoaT n := by
 unfold Lib.itoa itoaT
 split
 ·rw [dec_eq, show ((n.natAbs : Nat) : Int) = -n from by omega]
 ·rw [dec_eq, show ((n.toNat : Nat) : Int) = n from by omega]
theorem itoaI (n : Int) (hn : -1000 ≤ n ∧ n ≤ 1000) (w : World) (hT : TabP w) : CallsV P 79 [.int .i64 n, .int .i64 10] w fun r w' => r = str (itoaT n) ∧ Grow w w' [] := by
 refine (Any.internal_strconv_FormatInt_10 Tryd.lays246 n (by omega) (by omega) w hT).mono ?_
 rintro e w' ⟨rfl, k, os, rfl⟩
 exact ⟨_, rfl, by rw [itoa_eq], Grow.grewN w k os⟩
theorem itoaJ (n : Int) (hn : -1000 ≤ n ∧ n ≤ 1000) (w : World) (hT : TabP w) :
  CallsV P 70 [.int .i64 n] w fun r w' => r = str (itoaT n) ∧ Grow w w' [] := by
 refine enterW Tryd.func70 rfl Tryd.ntmps70 rfl ?_
 have hw0 := St.start w
 refine c_seq (c_region (l_assign rfl rfl rfl (l_nil (e_then ?_))))
 refine c_keep [0] (.cons rfl .nil) ?_
 refine c_seq (c_region (l_move rfl rfl rfl ?_))
 refine l_call rfl rfl Tryd.func79 rfl rfl (.cons rfl (.cons rfl .nil)) (itoaI n hn w (by exact hT)) ?_
 rintro _ w1 ⟨rfl, hG⟩
 have hw1 := hG _ _ _ _ hw0
 try clear hG hw0
 simp only [List.cons_append, List.nil_append] at hw1
 refine l_assign rfl rfl rfl (l_nil (e_then ?_))
 refine c_keep [2] (.cons rfl .nil) ?_
 refine c_ret ?_
 refine e_done1 Tryd.results70 rfl ?_
 refine ⟨_, rfl, ?_⟩
 exact ⟨rfl, hw1.grows⟩
theorem itoaP (n : Int) (hn : -1000 ≤ n ∧ n ≤ 1000) (w : World) (hT : TabP w) :
  CallsV P 51 [.int .i64 n] w fun r w' => r = str (itoaT n) ∧ Grow w w' [] := by
 refine enterW Tryd.func51 rfl Tryd.ntmps51 rfl ?_
 have hw0 := St.start w
 refine c_seq (c_region (l_assign rfl rfl rfl (l_nil (e_then ?_))))
 refine c_keep [0] (.cons rfl .nil) ?_
 refine c_seq (c_region (l_move rfl rfl rfl ?_))
 refine l_call rfl rfl Tryd.func70 rfl rfl (.cons rfl .nil) (itoaJ n hn w hT) ?_
 rintro _ w1 ⟨rfl, hG⟩
 have hw1 := hG _ _ _ _ hw0
 try clear hG hw0
 simp only [List.cons_append, List.nil_append] at hw1
 refine l_assign rfl rfl rfl (l_nil (e_then ?_))
 refine c_keep [2] (.cons rfl .nil) ?_
 refine c_ret ?_
 refine e_done1 Tryd.results51 rfl ?_
 refine ⟨_, rfl, ?_⟩
 exact ⟨rfl, hw1.grows⟩
theorem noughtsP (lb : Nat) (vt : Value) (t : List UInt8) (hL : t.length ≤ 50000) (n : Int) (hn : n ≤ 30000) (w : World) (hS : Sep w.heap.size (fps [As.blk lb 52 [vt], As.rb 5 vt t]) w [As.blk lb 52 [vt], As.rb 5 vt t]) :
  CallsV P 25 [.pointer (some ⟨lb, 0, none⟩), .int .i64 n] w fun r w' => ∃ vt', r = .tuple #[] ∧ Trans w w' [As.blk lb 52 [vt], As.rb 5 vt t] [As.blk lb 52 [vt'], As.rb 5 vt' (t ++ zsT n)] := by
 refine enterW Tryd.func25 rfl Tryd.ntmps25 rfl ?_
 have hw0 := St.startS hS
 refine c_seq (c_region (l_move rfl rfl rfl (l_move rfl rfl rfl (l_nil (e_then ?_)))))
 refine c_keep [0, 4, 5] (.cons rfl (.cons rfl (.cons rfl .nil))) ?_
 refine c_block ?_
 refine c_loopk (ι := Nat × Value) (fun (z0 : Nat × Value) => match z0 with | ⟨k, vt1⟩ => (n - k).toNat) (fun (z0 : Nat × Value) (w' : World) => match z0 with | ⟨k, vt1⟩ => St w w.heap.size (fps [As.blk lb 52 [vt], As.rb 5 vt t]) ([As.blk lb 52 [vt1], As.rb 5 vt1 (t ++ List.replicate k 48)]) w' ∧ ((k : Int) ≤ n ∨ k = 0)) (fun (z0 : Nat × Value) => match z0 with | ⟨k, vt1⟩ => [(5, .int .i64 (k : Int))]) [0, 4] (0, vt) ?_ (.cons rfl (.cons rfl .nil)) ?_ ?_
 ·exact ⟨hw0.cast (by simp), .inr rfl⟩
 ·exact (.cons rfl (by first | rfl | (refine congrArg (Value.int _) ?_; omega)) .nil)
 rintro ⟨k, vt1⟩ w1 ⟨hw1, hk⟩
 show RunC P _ _ _ (_ :: _) _
 refine c_seq (c_region ?_)
 refine l_lss rfl rfl rfl rfl ?_
 refine l_nil (e_then (c_seq ?_))
 first | refine c_cond rfl (fun hc0 => ?_) (fun hc0 => ?_) | refine c_condb rfl (fun hc0 => ?_) (fun hc0 => ?_)
 ·skip
  refine c_skip (e_then ?_)
  refine c_keep [0, 4, 5] (.cons rfl (.cons rfl (.cons rfl .nil))) ?_
  refine c_seq (c_block (c_region (l_move rfl rfl rfl ?_)))
  refine v_lit hw1 rfl rfl Tryd.underlying25 ti5 rfl (.cons rfl (by first | rfl | assumption) .nil) rfl rfl rfl (fun b2_1 w2 hw2 => ?_)
  try clear hw1
  have hw3 := St.frontL (l := [_, _]) hw2
  simp only [List.cons_append, List.nil_append] at hw3
  try clear hw2
  have hw4 := St.frontL (l := [_, _]) hw3
  simp only [List.cons_append, List.nil_append] at hw4
  try clear hw3
  refine l_call rfl rfl Tryd.func26 rfl rfl (.cons rfl (.cons rfl .nil)) (putP lb vt1 (t ++ List.replicate k 48) (by first | omega | (simp; omega)) _ ([48]) (by simp) w2 (St.rows (τ := [As.blk lb 52 [vt1], As.rb 5 vt1 (t ++ List.replicate k 48)]) hw4) (St.argR (τ := [As.blk lb 52 [vt1], As.rb 5 vt1 (t ++ List.replicate k 48)]) hw4 (A := As.blk b2_1 5 [.int .u8 48]) (.head _) (R := fun w1 => IB w1 (.slice (some ⟨b2_1, 0, none⟩) 1 1) [48]) (fun w1 h => blk_iv h))) ?_
  rintro _ w5 ⟨vt2, rfl, hX⟩
  have hw5 := hX _ _ _ _ hw4
  simp only [List.cons_append, List.nil_append] at hw5
  try clear hX hw4
  refine l_nil ?_
  refine e_blk ?_
  refine e_then ?_
  refine c_keep [0, 4, 5] (.cons rfl (.cons rfl (.cons rfl .nil))) ?_
  refine c_region ?_
  refine l_add rfl rfl rfl rfl (w_i64 (by omega)) ?_
  refine l_move rfl rfl rfl (l_nil ?_)
  have hw6 := St.del (.tail (.tail .head)) hw5
  try clear hw5
  refine e_againk (i := (k, vt1)) (k + 1, vt2) ?_ ?_ (.cons rfl (.cons rfl .nil)) ?_
  ·first | omega | (simp; omega)
  ·exact ⟨hw6.cast (by rw [List.append_assoc, ← List.replicate_succ' (n := k) (a := (48 : UInt8))]), .inl (by omega)⟩
  ·exact (.cons rfl (by first | rfl | (refine congrArg (Value.int _) ?_; omega)) .nil)
 ·skip
  refine c_exit ?_
  refine e_then_exit ?_
  refine e_then_exit ?_
  refine e_blk_exit ?_
  try dsimp only
  refine e_done0 Tryd.results25 ?_
  refine ⟨_, rfl, ?_⟩
  obtain rfl : n.toNat = k := by omega
  exact ⟨_, rfl, (hw1.cast (show _ = [As.blk lb 52 [vt1], As.rb 5 vt1 (t ++ zsT n)] from rfl)).transS⟩
theorem pointP (lb : Nat) (vt : Value) (t : List UInt8) (hL : t.length ≤ 50000) (vd : Value) (ds : List UInt8) (hds : ds.length ≤ 1000) (n : Nat) (hn : n ≤ ds.length) (w : World) (hS : Sep w.heap.size (fps [As.blk lb 52 [vt], As.rb 5 vt t, As.iv vd (bys ds)]) w [As.blk lb 52 [vt], As.rb 5 vt t, As.iv vd (bys ds)]) :
  CallsV P 27 [.pointer (some ⟨lb, 0, none⟩), vd, .int .i64 (n : Int)] w fun r w' => ∃ vt', r = .tuple #[] ∧ Trans w w' [As.blk lb 52 [vt], As.rb 5 vt t, As.iv vd (bys ds)] [As.blk lb 52 [vt'], As.rb 5 vt' (t ++ ptT ds n), As.iv vd (bys ds)] := by
 refine enterW Tryd.func27 rfl Tryd.ntmps27 rfl ?_
 have hw0 := St.startS hS
 have hbd : (bys ds).length = ds.length := by simp [bys]
 refine c_seq (c_region (l_move rfl rfl rfl (l_move rfl rfl rfl (l_move rfl rfl rfl ?_))))
 refine v_cut (l := 0) (h := n) rfl rfl Tryd.underlying25 tz5 rfl rfl rfl rfl (by first | exact hw0.ibl mem0 | exact hw0.io mem1 | exact hw0.ii mem2 | assumption) (by first | rfl | (simp; done) | (simp; omega)) (by first | rfl | (simp; done) | (simp; omega)) (.inl rfl) (by simp) (by omega) (by first | omega | (simp; omega) | (simp; done)) (fun v0_3 h0_3 ho0_3 => ?_)
 have hct0 : IB w v0_3 (ds.take n) := by
  have e : ((bys ds).take n).drop 0 = bys (ds.take n) := by simp [bys, List.map_take]
  rw [e] at h0_3
  exact h0_3
 refine l_call rfl rfl Tryd.func26 rfl rfl (.cons rfl (.cons rfl .nil)) (putP lb vt (t) (by first | omega | (simp; omega)) _ ((ds.take n)) (by simp; omega) w (St.rows (τ := [As.blk lb 52 [vt], As.rb 5 vt (t)]) hw0) (St.argW (τ := [As.blk lb 52 [vt], As.rb 5 vt (t)]) hw0 (A := As.iv vd (bys ds)) (.head _) hct0 (fun k hk => by rw [ho0_3] at hk; exact hk))) ?_
 rintro _ w1 ⟨v1, rfl, hX⟩
 have hw1 := hX _ _ _ _ hw0
 simp only [List.cons_append, List.nil_append] at hw1
 try clear hX hw0
 refine l_nil (e_then ?_)
 refine c_keep [0, 1, 2] (.cons rfl (.cons rfl (.cons rfl .nil))) ?_
 refine c_seq (c_region (l_move rfl rfl rfl (l_move rfl rfl rfl ?_)))
 refine v_lenb rfl rfl Tryd.underlying25 rfl (by first | exact hw1.ibl mem0 | exact hw1.io mem1 | exact hw1.ii mem2 | assumption) ?_
 refine l_lss rfl rfl rfl rfl ?_
 refine l_nil (e_then ?_)
 refine c_keep [0, 1, 2, 14] (.cons rfl (.cons rfl (.cons rfl (.cons rfl .nil)))) ?_
 first | refine c_cond rfl (fun hc0 => ?_) (fun hc0 => ?_) | refine c_condb rfl (fun hc0 => ?_) (fun hc0 => ?_)
 ·skip
  refine c_seq (c_region (l_move rfl rfl rfl ?_))
  refine v_lit hw1 rfl rfl Tryd.underlying25 ti5 rfl (.cons rfl (by first | rfl | assumption) .nil) rfl rfl rfl (fun b2_1 w2 hw2 => ?_)
  try clear hw1
  have hw3 := St.frontL (l := [_, _]) hw2
  simp only [List.cons_append, List.nil_append] at hw3
  try clear hw2
  have hw4 := St.frontL (l := [_, _]) hw3
  simp only [List.cons_append, List.nil_append] at hw4
  try clear hw3
  refine l_call rfl rfl Tryd.func26 rfl rfl (.cons rfl (.cons rfl .nil)) (putP lb v1 (t ++ ds.take n) (by first | omega | (simp; omega)) _ ([46]) (by simp) w2 (St.rows (τ := [As.blk lb 52 [v1], As.rb 5 v1 (t ++ ds.take n)]) hw4) (St.argR (τ := [As.blk lb 52 [v1], As.rb 5 v1 (t ++ ds.take n)]) hw4 (A := As.blk b2_1 5 [.int .u8 46]) (.head _) (R := fun w1 => IB w1 (.slice (some ⟨b2_1, 0, none⟩) 1 1) [46]) (fun w1 h => blk_iv h))) ?_
  rintro _ w5 ⟨v2, rfl, hX⟩
  have hw5 := hX _ _ _ _ hw4
  simp only [List.cons_append, List.nil_append] at hw5
  try clear hX hw4
  refine l_nil (e_then ?_)
  refine c_keep [0, 1, 2] (.cons rfl (.cons rfl (.cons rfl .nil))) ?_
  refine c_region (l_move rfl rfl rfl (l_move rfl rfl rfl (l_move rfl rfl rfl ?_)))
  refine v_cut (l := n) (h := ds.length) rfl rfl Tryd.underlying25 tz5 rfl rfl rfl rfl (by first | exact hw5.ibl mem0 | exact hw5.io mem1 | exact hw5.ibl mem2 | exact hw5.ii mem3 | assumption) (by first | rfl | (simp; done) | (simp; omega)) (by first | rfl | (simp; done) | (simp; omega)) (.inl rfl) (by simp) (by omega) (by first | omega | (simp; omega) | (simp; done)) (fun v3_3 h3_3 ho3_3 => ?_)
  have hct3 : IB w5 v3_3 (ds.drop n) := by
   have e : ((bys ds).take ds.length).drop n = bys (ds.drop n) := by rw [List.take_of_length_le (by omega)]; simp [bys, List.map_drop]
   rw [e] at h3_3
   exact h3_3
  refine l_call rfl rfl Tryd.func26 rfl rfl (.cons rfl (.cons rfl .nil)) (putP lb v2 (t ++ ds.take n ++ [46]) (by first | omega | (simp; omega)) _ ((ds.drop n)) (by simp; omega) w5 (St.rows (τ := [As.blk lb 52 [v2], As.rb 5 v2 (t ++ ds.take n ++ [46])]) hw5) (St.argW (τ := [As.blk lb 52 [v2], As.rb 5 v2 (t ++ ds.take n ++ [46])]) hw5 (A := As.iv vd (bys ds)) (.tail _ (.head _)) hct3 (fun k hk => by rw [ho3_3] at hk; exact hk))) ?_
  rintro _ w6 ⟨v3, rfl, hX⟩
  have hw6 := hX _ _ _ _ hw5
  simp only [List.cons_append, List.nil_append] at hw6
  try clear hX hw5
  refine l_nil ?_
  try dsimp only
  refine e_done0 Tryd.results27 ?_
  refine ⟨_, rfl, ?_⟩
  have hw7 := St.front3 hw6
  try clear hw6
  have hw8 := St.front2 hw7
  try clear hw7
  have hw9 := St.front2 hw8
  try clear hw8
  have hw10 := St.del (.tail (.tail (.tail .head))) hw9
  try clear hw9
  exact ⟨_, rfl, (hw10.cast (show _ = [As.blk lb 52 [v3], As.rb 5 v3 (t ++ ptT ds n), As.iv vd (bys ds)] from by unfold ptT; rw [Int.toNat_natCast, if_pos (by omega)]; simp [List.append_assoc])).transS⟩
 ·skip
  refine c_skip ?_
  try dsimp only
  refine e_done0 Tryd.results27 ?_
  refine ⟨_, rfl, ?_⟩
  have hw11 := St.front2 hw1
  try clear hw1
  have hw12 := St.front2 hw11
  try clear hw11
  have hw13 := St.front2 hw12
  try clear hw12
  exact ⟨_, rfl, (hw13.cast (show _ = [As.blk lb 52 [v1], As.rb 5 v1 (t ++ ptT ds n), As.iv vd (bys ds)] from by unfold ptT; rw [Int.toNat_natCast, if_neg (by omega)]; simp)).transS⟩
theorem itoaT_len {n : Int} (hn : -1000 ≤ n ∧ n ≤ 1000) : (itoaT n).length ≤ 5 := by
 have key : ∀ m : Int, 0 ≤ m → m ≤ 1000 → (dtx m).length ≤ 4 := fun m h0 h1 => by
  rcases Int.lt_or_eq_of_le h0 with h | h
  ·rw [dl_dtx h]
   exact dl_le h0 (by rw [show (10 : Int) ^ 4 = 10000 from by decide]; omega)
  ·rw [← h]; decide
 unfold itoaT
 split
 ·have := key (-n) (by omega) (by omega)
  simp; omega
 ·have := key n (by omega) (by omega)
  omega
theorem expP (lb : Nat) (vt : Value) (t : List UInt8) (hL : t.length ≤ 50000) (n : Int) (hn : -1000 ≤ n ∧ n ≤ 1000) (w : World) (hS : Sep w.heap.size (fps [As.blk lb 52 [vt], As.rb 5 vt t]) w [As.blk lb 52 [vt], As.rb 5 vt t]) (hT : ∀ w1 : World, (∀ k, k < w.heap.size → ¬ fps [As.blk lb 52 [vt], As.rb 5 vt t] k → w1.heap[k]? = w.heap[k]?) → TabP w1) :
  CallsV P 37 [.pointer (some ⟨lb, 0, none⟩), .int .i64 n] w fun r w' => ∃ vt', r = .tuple #[] ∧ Trans w w' [As.blk lb 52 [vt], As.rb 5 vt t] [As.blk lb 52 [vt'], As.rb 5 vt' (t ++ exT n)] := by
 refine enterW Tryd.func37 rfl Tryd.ntmps37 rfl ?_
 have hw0 := St.startS hS
 have hil := itoaT_len hn
 refine c_seq (c_region (l_move rfl rfl rfl ?_))
 refine v_lit hw0 rfl rfl Tryd.underlying25 ti5 rfl (.cons rfl (by first | rfl | assumption) .nil) rfl rfl rfl (fun b0_1 w1 hw1 => ?_)
 try clear hw0
 have hw2 := St.frontL (l := [_, _]) hw1
 simp only [List.cons_append, List.nil_append] at hw2
 try clear hw1
 have hw3 := St.frontL (l := [_, _]) hw2
 simp only [List.cons_append, List.nil_append] at hw3
 try clear hw2
 refine l_call rfl rfl Tryd.func26 rfl rfl (.cons rfl (.cons rfl .nil)) (putP lb vt (t) (by omega) _ ([101]) (by simp) w1 (St.rows (τ := [As.blk lb 52 [vt], As.rb 5 vt (t)]) hw3) (St.argR (τ := [As.blk lb 52 [vt], As.rb 5 vt (t)]) hw3 (A := As.blk b0_1 5 [.int .u8 101]) (.head _) (R := fun w1 => IB w1 (.slice (some ⟨b0_1, 0, none⟩) 1 1) [101]) (fun w1 h => blk_iv h))) ?_
 rintro _ w4 ⟨v1, rfl, hX⟩
 have hw4 := hX _ _ _ _ hw3
 simp only [List.cons_append, List.nil_append] at hw4
 try clear hX hw3
 refine l_nil (e_then ?_)
 refine c_keep [0, 1] (.cons rfl (.cons rfl .nil)) ?_
 refine c_region (l_move rfl rfl rfl (l_move rfl rfl rfl ?_))
 refine l_call rfl rfl Tryd.func51 rfl rfl (.cons rfl .nil) (itoaP n hn w4 (hT _ fun k hk hf => hw4.ext.block k hk hf)) ?_
 rintro _ w5 ⟨rfl, hG⟩
 have hw5 := hG _ _ _ _ hw4
 try clear hG hw4
 simp only [List.cons_append, List.nil_append] at hw5
 refine v_tobytes hw5 rfl rfl Tryd.underlying9 Tryd.underlying25 Tryd.underlying5 rfl (fun v1_3 w6 hw6 => ?_)
 try clear hw5
 have hw7 := St.frontL (l := [_, _]) hw6
 simp only [List.cons_append, List.nil_append] at hw7
 try clear hw6
 have hw8 := St.frontL (l := [_, _]) hw7
 simp only [List.cons_append, List.nil_append] at hw8
 try clear hw7
 refine l_call rfl rfl Tryd.func26 rfl rfl (.cons rfl (.cons rfl .nil)) (putP lb v1 (t ++ [101]) (by first | omega | (simp; omega)) _ ((itoaT n)) (by omega) w6 (St.rows (τ := [As.blk lb 52 [v1], As.rb 5 v1 (t ++ [101])]) hw8) (St.argR (τ := [As.blk lb 52 [v1], As.rb 5 v1 (t ++ [101])]) hw8 (A := As.iv v1_3 (bys (itoaT n))) (.head _) (R := fun w1 => IB w1 v1_3 (itoaT n)) (fun w1 h => h))) ?_
 rintro _ w9 ⟨v2, rfl, hX⟩
 have hw9 := hX _ _ _ _ hw8
 simp only [List.cons_append, List.nil_append] at hw9
 try clear hX hw8
 refine l_nil ?_
 try dsimp only
 refine e_done0 Tryd.results37 ?_
 refine ⟨_, rfl, ?_⟩
 have hw10 := St.front1 hw9
 try clear hw9
 have hw11 := St.front1 hw10
 try clear hw10
 have hw12 := St.del (.tail (.tail (.tail .head))) hw11
 try clear hw11
 have hw13 := St.del (.tail (.tail .head)) hw12
 try clear hw12
 exact ⟨_, rfl, (hw13.cast (show _ = [As.blk lb 52 [v2], As.rb 5 v2 (t ++ exT n)] from by unfold exT; simp)).transS⟩
section
variable {P : Program} {N : Nat} {ρ : Env} {w : World} {Q : PostM} {ops : Array Oper} {rest : List Oper} {d : Nat} {ty : TypeId} {pos : String} {af : Array Edge} {g : Option (Nat × Bool)}
theorem l_indexA {x ix : Operand} {k : IntKind} {i : Int} {j m b : Nat} {T e : TypeId} (hg : wantE ops ρ g = true) (hN : Nat.blt d N = true) (hT : P.underlying T = some (.array m e)) (hsz : (P.info? e).map (·.size) = some 1)
  (hx : evalE ρ x = some (.pointer (some ⟨b, 0, none⟩))) (hi : evalE ρ ix = some (.int k i)) (hij : i = (j : Int)) (hb : j < m)
  (nx : RunL P N ops Q rest ((d, .pointer (some ⟨b, j, none⟩)) :: ρ) w) : RunL P N ops Q (⟨some d, .indexAddr T x ix, ty, pos, af, g⟩ :: rest) ρ w := by
 subst hij
 exact l_val hg rfl hN (fun a ha => by
  cases hq : P.info? e with
  | none => simp [hq] at hsz
  | some inf =>
   have h1 : inf.size = 1 := by simpa [hq] using hsz
   have h2 : (⟨b, 0, none⟩ : Addr).add j = ⟨b, j, none⟩ := by rw [Lib.add_plain, Nat.zero_add]
   simp [execOp, ha.eval hx, ha.eval hi, Instr.indexAt, Instr.sureAddr, asIntOf, run_underlying hT, hb, sizeOf, typeInfo, hq, h1, h2]) nx
theorem l_sliceA {x hi : Operand} {k : IntKind} {i : Int} {h m b : Nat} {T e : TypeId} (hg : wantE ops ρ g = true) (hN : Nat.blt d N = true) (hT : P.underlying T = some (.array m e)) (hsz : (P.info? e).map (·.size) = some 1)
  (hx : evalE ρ x = some (.pointer (some ⟨b, 0, none⟩))) (he : evalE ρ hi = some (.int k i)) (hij : i = (h : Int)) (hb : h ≤ m)
  (nx : RunL P N ops Q rest ((d, .slice (some ⟨b, 0, none⟩) h m) :: ρ) w) : RunL P N ops Q (⟨some d, .slice T x none (some hi) none, ty, pos, af, g⟩ :: rest) ρ w := by
 subst hij
 exact l_val hg rfl hN (fun a ha => by
  cases hq : P.info? e with
  | none => simp [hq] at hsz
  | some inf =>
   have h1 : inf.size = 1 := by simpa [hq] using hsz
   have h2 : (⟨b, 0, none⟩ : Addr).add 0 = ⟨b, 0, none⟩ := by rw [Lib.add_plain]
   simp [execOp, ha.eval hx, ha.eval he, Instr.sliceAt, Instr.sureAddr, Instr.sliceBounds, Instr.sliceBound, asIntOf, run_underlying hT, hb, sizeOf, typeInfo, hq, h1, h2]) nx
end
theorem setAt_of : ∀ {cs : List Value} {o : Nat} (h : o < cs.length) (x : Value), SetAt cs o x (cs.set o x)
 | c :: cs, 0, _, x => .zero
 | c :: cs, o + 1, h, x => .succ (setAt_of (cs := cs) (o := o) (by simpa using h) x)
theorem dtx_ten {z : Int} (h : 9 < z) : (dtx z).length = (dtx (z / 10)).length + 1 := by
 rw [dl_dtx (by omega), dl_dtx (by omega), dl_pos (by omega)]
theorem dtx_one {z : Int} (h0 : 0 ≤ z) (h : ¬ 9 < z) : (dtx z).length = 1 := by
 rcases Int.lt_or_eq_of_le h0 with h1 | h1
 ·rw [dl_dtx h1, dl_pos h1, show z / 10 = 0 from by omega, dl_zero]
 ·rw [← h1]; rfl
theorem dtx_pos {z : Int} (hz : 0 ≤ z) : 1 ≤ (dtx z).length := by
 unfold dtx
 split
 ·exact Nat.le_refl _
 ·rcases Int.lt_or_le 0 z with h | h
  ·have := dt0_ne h
   exact List.length_pos_iff.2 this
  ·omega
theorem dtx_le {x : Int} (hx : 0 ≤ x ∧ x ≤ 18446744073709551615) : (dtx x).length ≤ 20 := by
 rcases Int.lt_or_eq_of_le hx.1 with h1 | h1
 ·rw [dl_dtx h1]
  exact dl_le hx.1 (by rw [show (10 : Int) ^ 20 = 100000000000000000000 from by decide]; omega)
 ·rw [← h1]; decide
theorem countD (x : Int) (hx : 0 ≤ x ∧ x ≤ 18446744073709551615) (w : World) :
  CallsV P 50 [.int .u64 x] w fun r w' => r = .int .i64 ((dtx x).length : Int) ∧ w = w' := by
 refine enterW Tryd.func50 rfl Tryd.ntmps50 rfl ?_
 have hdx : (dtx x).length ≤ 20 := dtx_le hx
 refine c_seq (c_region (l_assign rfl rfl rfl (l_nil (e_then ?_))))
 refine c_keep [0] (.cons rfl .nil) ?_
 refine c_seq (c_region (l_assign rfl rfl rfl (l_nil (e_then (c_seq ?_)))))
 refine c_block ?_
 refine c_loopk (ι := Nat × Int) (fun (z0 : Nat × Int) => match z0 with | ⟨n, z⟩ => z.toNat) (fun (z0 : Nat × Int) (w' : World) => match z0 with | ⟨n, z⟩ => w = w' ∧ n + (dtx z).length = (dtx x).length + 1 ∧ 0 ≤ z ∧ z ≤ 18446744073709551615 ∧ 1 ≤ n) (fun (z0 : Nat × Int) => match z0 with | ⟨n, z⟩ => [(0, .int .u64 z), (3, .int .i64 (n : Int))]) [] (1, x) ?_ .nil ?_ ?_
 ·exact ⟨rfl, by omega, by omega, by omega, by omega⟩
 ·exact (.cons rfl (by first | rfl | (refine congrArg (Value.int _) ?_; omega)) (.cons rfl (by first | rfl | (refine congrArg (Value.int _) ?_; omega)) .nil))
 rintro ⟨n, z⟩ _ ⟨rfl, hn, hz0, hz1, hn1⟩
 show RunC P _ _ _ (_ :: _) _
 have hdz1 := dtx_pos hz0
 refine c_seq (c_seq (c_region (l_move rfl rfl rfl ?_)))
 refine l_gtr rfl rfl rfl rfl ?_
 refine l_nil (e_then ?_)
 refine c_keep [0, 3, 5] (.cons rfl (.cons rfl (.cons rfl .nil))) ?_
 first | refine c_cond rfl (fun hc0 => ?_) (fun hc0 => ?_) | refine c_condb rfl (fun hc0 => ?_) (fun hc0 => ?_)
 ·skip
  refine c_skip (e_then ?_)
  refine c_keep [0, 3] (.cons rfl (.cons rfl .nil)) ?_
  refine c_block (c_seq (c_region (l_move rfl rfl rfl ?_)))
  refine l_quo rfl rfl rfl rfl (by omega) (q_u64 (by omega)) ?_
  refine l_assign rfl rfl rfl (l_nil (e_then ?_))
  refine c_keep [0, 3] (.cons rfl (.cons rfl .nil)) ?_
  refine c_region (l_move rfl rfl rfl ?_)
  refine l_add rfl rfl rfl rfl (w_i64 (by omega)) ?_
  refine l_assign rfl rfl rfl (l_nil ?_)
  refine e_blk ?_
  refine e_againk (i := (n, z)) (n + 1, z / 10) ?_ ?_ .nil ?_
  ·first | omega | (simp; omega)
  ·have hdz := dtx_ten (z := z) (by omega)
   exact ⟨rfl, by omega, by omega, by omega, by omega⟩
  ·exact (.cons rfl (by first | rfl | (refine congrArg (Value.int _) ?_; omega)) (.cons rfl (by first | rfl | (refine congrArg (Value.int _) ?_; omega)) .nil))
 ·skip
  refine c_exit ?_
  refine e_then_exit ?_
  refine e_then_exit ?_
  refine e_blk_exit ?_
  refine e_then ?_
  refine c_keep [3] (.cons rfl .nil) ?_
  refine c_seq (c_region (l_move rfl rfl rfl (l_assign rfl rfl rfl (l_nil (e_then ?_)))))
  refine c_keep [2] (.cons rfl .nil) ?_
  refine c_ret ?_
  refine e_done1 Tryd.results50 rfl ?_
  refine ⟨_, rfl, ?_⟩
  have h1 := dtx_one (z := z) hz0 (by omega)
  exact ⟨congrArg (Value.int .i64) (by omega), rfl⟩
theorem dtx_step {x : Int} (h : 9 < x) : dtx x = dtx (x / 10) ++ [dig (x % 10)] := by
 unfold dtx
 rw [if_neg (by omega), if_neg (by omega), dt0_pos (by omega)]
theorem dtx_sm {x : Int} (h0 : 0 ≤ x) (h : ¬ 9 < x) : dtx x = [dig x] := by
 rcases Int.lt_or_eq_of_le h0 with h1 | h1
 ·unfold dtx
  rw [if_neg (by omega), dt0_pos h1, show x / 10 = 0 from by omega, show (0 : Int).toNat = 0 from rfl, dt0_zero, show x % 10 = x from by omega]
  rfl
 ·rw [← h1]; rfl
theorem dtx_at : ∀ (k : Nat) {x : Int}, 0 ≤ x → k < (dtx x).length → (dtx x).getD ((dtx x).length - 1 - k) 0 = dig (x / 10 ^ k % 10)
 | 0, x, h0, hk => by
  rcases Int.lt_or_le 9 x with h | h
  ·rw [dtx_step h]
   simp
  ·rw [dtx_sm h0 (by omega)]
   simp
   rw [show x % 10 = x from by omega]
 | k + 1, x, h0, hk => by
  rcases Int.lt_or_le 9 x with h | h
  ·have ih := dtx_at k (x := x / 10) (by omega) (by rw [dtx_step h] at hk; simp at hk; omega)
   have e : x / 10 / 10 ^ k = x / 10 ^ (k + 1) := by rw [Int.ediv_ediv_of_nonneg (by omega), Int.pow_succ, Int.mul_comm]
   rw [e] at ih
   rw [← ih, dtx_step h]
   have hk2 : k < (dtx (x / 10)).length := by rw [dtx_step h] at hk; simp at hk; omega
   simp only [List.length_append, List.length_cons, List.length_nil]
   rw [show (dtx (x / 10)).length + (0 + 1) - 1 - (k + 1) = (dtx (x / 10)).length - 1 - k from by omega]
   simp only [List.getD_eq_getElem?_getD]
   rw [List.getElem?_append_left (by omega)]
  ·rw [dtx_sm h0 (by omega)] at hk
   simp at hk
theorem bys_set' (l : List UInt8) (j : Nat) (x : UInt8) : bys (l.set j x) = (bys l).set j (.int .u8 (x.toNat : Int)) := by
 unfold bys
 rw [List.map_set]
theorem take_is {cs D : List UInt8} (h : D.length ≤ cs.length) (k : ∀ j, j < D.length → cs.getD j 0 = D.getD j 0) : cs.take D.length = D := by
 apply List.ext_getElem (by simp; omega)
 intro j h1 h2
 have := k j h2
 simp only [List.getD_eq_getElem?_getD] at this
 rw [List.getElem?_eq_getElem (by omega), List.getElem?_eq_getElem h2] at this
 simpa using this
theorem padD (x : Int) (hx : 0 ≤ x ∧ x ≤ 18446744073709551615) (w : World) :
  CallsV P 49 [.int .u64 x, .int .i64 ((dtx x).length : Int)] w fun r w' => ∃ v, r = .tuple #[v, .int .i64 0] ∧ Grow w w' [As.rb 5 v (dtx x)] := by
 refine enterW Tryd.func49 rfl Tryd.ntmps49 rfl ?_
 have hw0 := St.start w
 have hn20 := dtx_le hx
 have hn1 := dtx_pos hx.1
 refine c_seq (c_region (l_assign rfl rfl rfl (l_assign rfl rfl rfl (l_nil (e_then ?_)))))
 refine c_keep [0, 1] (.cons rfl (.cons rfl .nil)) ?_
 refine c_seq (c_block (c_seq (c_region (l_move rfl rfl rfl ?_))))
 refine l_lss rfl rfl rfl rfl ?_
 refine l_move rfl rfl rfl ?_
 apply l_or 2 [0, 1] rfl rfl (.cons rfl (.cons rfl (.cons rfl .nil))) rfl rfl (fun _ => rfl) rfl rfl rfl
 ·intro hg1_3
  refine l_move rfl rfl rfl ?_
  refine l_gtr rfl rfl rfl rfl ?_
  refine l_nil ?_
  exact e_stays rfl (.cons rfl (congrArg Value.bool (decide_eq_false hg1_3).symm) (.cons rfl rfl (.cons rfl rfl .nil)))
 refine l_assign rfl rfl rfl (l_nil (e_then ?_))
 refine c_keep [0, 1, 8] (.cons rfl (.cons rfl (.cons rfl .nil))) ?_
 first | refine c_cond rfl (fun hc0 => ?_) (fun hc0 => ?_) | refine c_condb rfl (fun hc0 => ?_) (fun hc0 => ?_)
 ·skip
  exact absurd hc0 (by omega)
 ·skip
  refine c_seq (c_region (l_move rfl rfl rfl ?_))
  refine l_callp rfl rfl Tryd.func50 rfl rfl (.cons rfl .nil) (countD x hx w) ?_
  refine l_move rfl rfl rfl ?_
  refine l_gtr rfl rfl rfl rfl ?_
  refine l_assign rfl rfl rfl (l_nil (e_then ?_))
  refine c_keep [0, 1, 15] (.cons rfl (.cons rfl (.cons rfl .nil))) ?_
  first | refine c_cond rfl (fun hc1 => ?_) (fun hc1 => ?_) | refine c_condb rfl (fun hc1 => ?_) (fun hc1 => ?_)
  ·skip
   exact absurd hc1 (by omega)
  ·skip
   refine c_skip ?_
   refine e_blk ?_
   refine e_then ?_
   refine c_keep [0, 1] (.cons rfl (.cons rfl .nil)) ?_
   refine c_seq (c_region ?_)
   refine l_alloc hw0 ta113 rfl rfl (fun b5_0 w1 hw1 => ?_)
   try clear hw0
   refine l_nil (e_then (c_seq (c_seq (c_region (l_move rfl rfl rfl ?_)))))
   refine l_sub rfl rfl rfl rfl (w_i64 (by omega)) ?_
   refine l_assign rfl rfl rfl (l_nil (e_then ?_))
   refine c_keep [0, 1, 6, 7] (.cons rfl (.cons rfl (.cons rfl (.cons rfl .nil)))) ?_
   refine c_block ?_
   refine c_loopk (ι := Nat × Int × List UInt8) (fun (z0 : Nat × Int × List UInt8) => match z0 with | ⟨k, z, cs⟩ => (dtx x).length - k) (fun (z0 : Nat × Int × List UInt8) (w' : World) => match z0 with | ⟨k, z, cs⟩ => St w w.heap.size None' ([As.blk b5_0 113 (bys cs)]) w' ∧ k ≤ (dtx x).length ∧ cs.length = 20 ∧ z = x / 10 ^ k ∧ (∀ j, (dtx x).length - k ≤ j → j < (dtx x).length → cs.getD j 0 = (dtx x).getD j 0)) (fun (z0 : Nat × Int × List UInt8) => match z0 with | ⟨k, z, cs⟩ => [(0, .int .u64 z), (7, .int .i64 (((dtx x).length : Int) - 1 - k))]) [1, 6] (0, x, List.replicate 20 0) ?_ (.cons rfl (.cons rfl .nil)) ?_ ?_
   ·exact ⟨hw1, by omega, by simp, by simp, fun j h1 h2 => by omega⟩
   ·exact (.cons rfl (by first | rfl | (refine congrArg (Value.int _) ?_; omega)) (.cons rfl (by first | rfl | (refine congrArg (Value.int _) ?_; omega)) .nil))
   rintro ⟨k, z, cs⟩ w2 ⟨hw2, hk, hcl, hz, hdone⟩
   show RunC P _ _ _ (_ :: _) _
   have hz0 : 0 ≤ z := by rw [hz]; exact Int.ediv_nonneg hx.1 (Int.le_of_lt (p10 k))
   have hz1 : z ≤ 18446744073709551615 := by rw [hz]; exact Int.le_trans (Int.ediv_le_self _ hx.1) hx.2
   refine c_seq (c_seq (c_region (l_move rfl rfl rfl ?_)))
   refine l_geq rfl rfl rfl rfl ?_
   refine l_nil (e_then ?_)
   refine c_keep [0, 1, 6, 7, 23] (.cons rfl (.cons rfl (.cons rfl (.cons rfl (.cons rfl .nil))))) ?_
   first | refine c_cond rfl (fun hc2 => ?_) (fun hc2 => ?_) | refine c_condb rfl (fun hc2 => ?_) (fun hc2 => ?_)
   ·skip
    refine c_skip (e_then ?_)
    refine c_keep [0, 1, 6, 7] (.cons rfl (.cons rfl (.cons rfl (.cons rfl .nil)))) ?_
    refine c_seq (c_block (c_seq (c_region (l_move rfl rfl rfl (l_move rfl rfl rfl ?_)))))
    refine l_rem rfl rfl rfl rfl (by omega) (r_pos (by omega)) ?_
    refine l_add rfl rfl rfl rfl (w_u64 (by omega)) ?_
    refine l_conv rfl rfl Tryd.underlying22 Tryd.underlying5 rfl (w_u8 (by omega)) ?_
    refine l_indexA (j := (dtx x).length - 1 - k) rfl rfl Tryd.underlying113 tz5 rfl rfl (by omega) (by omega) ?_
    refine l_store_blk hw2 .head (setAt_of (by simp [bys]; omega) _) rfl tz5 rfl rfl rfl (fun w3 hw3 => ?_)
    refine l_nil (e_then ?_)
    refine c_keep [0, 1, 6, 7] (.cons rfl (.cons rfl (.cons rfl (.cons rfl .nil)))) ?_
    refine c_region (l_move rfl rfl rfl ?_)
    refine l_quo rfl rfl rfl rfl (by omega) (q_u64 (by omega)) ?_
    refine l_assign rfl rfl rfl (l_nil ?_)
    refine e_blk ?_
    refine e_then ?_
    refine c_keep [0, 1, 6, 7] (.cons rfl (.cons rfl (.cons rfl (.cons rfl .nil)))) ?_
    refine c_region (l_move rfl rfl rfl ?_)
    refine l_sub rfl rfl rfl rfl (w_i64 (by omega)) ?_
    refine l_assign rfl rfl rfl (l_nil ?_)
    refine e_againk (i := (k, z, cs)) (k + 1, z / 10, cs.set ((dtx x).length - 1 - k) (dig (z % 10))) ?_ ?_ (.cons rfl (.cons rfl .nil)) ?_
    ·first | omega | (simp; omega)
    ·refine ⟨hw3.cast ?_, by omega, by simp [hcl], by rw [hz, Int.ediv_ediv_of_nonneg (Int.le_of_lt (p10 k)), Int.pow_succ], fun j h1 h2 => ?_⟩
     ·rw [bys_set', dig_toNat (by omega)]
     ·by_cases he : j = (dtx x).length - 1 - k
      ·subst he
       rw [dtx_at k hx.1 (by omega), ← hz]
       rw [List.getD_eq_getElem?_getD, List.getElem?_set_self (by omega)]
       rfl
      ·rw [← hdone j (by omega) h2]
       simp only [List.getD_eq_getElem?_getD]
       rw [List.getElem?_set_ne (by omega)]
    ·exact (.cons rfl (by first | rfl | (refine congrArg (Value.int _) ?_; omega)) (.cons rfl (by first | rfl | (refine congrArg (Value.int _) ?_; omega)) .nil))
   ·skip
    refine c_exit ?_
    refine e_then_exit ?_
    refine e_then_exit ?_
    refine e_blk_exit ?_
    refine e_then ?_
    refine c_keep [1, 6] (.cons rfl (.cons rfl .nil)) ?_
    refine c_seq (c_region (l_move rfl rfl rfl ?_))
    refine l_sliceA (h := (dtx x).length) rfl rfl Tryd.underlying113 tz5 rfl rfl rfl (by omega) ?_
    have hD := take_is (cs := cs) (D := dtx x) (by omega) (fun j hj => hdone j (by omega) hj)
    have hsl : IV w2 (.slice (some ⟨b5_0, 0, none⟩) (dtx x).length 20) (bys (dtx x)) := by
     have h := IV.cut (c := 20) (l := 0) (k := (dtx x).length) (m := 20) (blk_sl (hw2.ok mem0)) (by omega) (by first | (simp [bys]; omega) | (simp [bys, hcl]; done)) (by omega)
     have e : ((bys cs).take (dtx x).length).drop 0 = bys (dtx x) := by rw [List.drop_zero, bys, ← List.map_take, hD]
     rw [e] at h
     simpa [cutA, Lib.add_plain] using h
    refine v_append_nil hw2 rfl rfl Tryd.underlying25 ti5 rfl rfl rfl (by first | exact hw2.ibl mem0 | assumption) (by first | exact ints_one _ _ | exact bys_one _ | simp [Value.oneCell']) (by first | (simp; done) | (simp; omega)) (by first | (simp; done) | (simp; omega)) (fun v11_2 w4 hw4 => ?_)
    try clear hw2
    refine l_assign rfl rfl rfl (l_assign rfl rfl rfl (l_nil (e_then ?_)))
    refine c_keep [4, 5] (.cons rfl (.cons rfl .nil)) ?_
    refine c_ret ?_
    refine e_done2 Tryd.results49 rfl rfl ?_
    refine ⟨_, rfl, ?_⟩
    have hw5 := St.del (.tail .head) hw4
    try clear hw4
    exact ⟨_, rfl, hw5.grows⟩
theorem textD (x : Int) (hx : 0 ≤ x ∧ x ≤ 18446744073709551615) (w : World) :
  CallsV P 36 [.int .u64 x] w fun r w' => ∃ v, r = v ∧ Grow w w' [As.rb 5 v (dtx x)] := by
 refine enterW Tryd.func36 rfl Tryd.ntmps36 rfl ?_
 have hw0 := St.start w
 refine c_seq (c_region (l_assign rfl rfl rfl (l_nil (e_then ?_))))
 refine c_keep [0] (.cons rfl .nil) ?_
 refine c_seq (c_region (l_move rfl rfl rfl (l_move rfl rfl rfl ?_)))
 refine l_callp rfl rfl Tryd.func50 rfl rfl (.cons rfl .nil) (countD x hx w) ?_
 refine l_call rfl rfl Tryd.func49 rfl rfl (.cons rfl (.cons rfl .nil)) (padD x hx w) ?_
 rintro _ w1 ⟨v, rfl, hG⟩
 have hw1 := hG _ _ _ _ hw0
 try clear hG hw0
 simp only [List.cons_append, List.nil_append] at hw1
 refine l_move rfl rfl rfl (l_extract rfl rfl rfl rfl (l_extract rfl rfl rfl rfl (l_assign rfl rfl rfl (l_assign rfl rfl rfl (l_nil ?_)))))
 refine e_then ?_
 refine c_keep [3] (.cons rfl .nil) ?_
 refine c_seq (c_region (l_move rfl rfl rfl (l_assign rfl rfl rfl (l_nil (e_then ?_)))))
 refine c_keep [2] (.cons rfl .nil) ?_
 refine c_ret ?_
 refine e_done1 Tryd.results36 rfl ?_
 refine ⟨_, rfl, ?_⟩
 exact ⟨_, rfl, hw1.grows⟩
theorem spl_bd {d : Kd} {b : Int} (hb : 0 ≤ b ∧ b < d.I) : 0 ≤ splM d b ∧ splM d b < 9007199254740992 ∧ -1074 ≤ splE d b ∧ splE d b ≤ 971 := by
 rcases Int.lt_or_eq_of_le hb.1 with h | h
 ·have h1 := spl_size ⟨h, hb.2⟩
  have h2 := splM_pos ⟨h, hb.2⟩
  omega
 ·subst h
  have hbd := d.bd
  unfold splM splE
  rw [Int.zero_emod, if_pos (by omega), if_pos (by omega)]
  cases d <;> decide
theorem fX_blen {d : Kd} {b : Int} (hb : 0 ≤ b ∧ b < d.I) : 0 ≤ fX d b ∧ Ma.blen (fX d b) ≤ (1100 : Nat) ∧ Ma.blen (fY d b) ≤ (1100 : Nat) := by
 have h := spl_bd hb
 have hM : Ma.blen (splM d b) ≤ (53 : Nat) := (Ma.blen_le_iff h.1 53).2 (by omega)
 have h2 : ∀ k : Nat, Ma.blen (2 ^ k) ≤ (k + 1 : Nat) := fun k => (Ma.blen_le_iff (Int.le_of_lt (p2_ k)) (k + 1)).2 (by rw [Int.pow_succ]; have := p2_ k; omega)
 refine ⟨Int.mul_nonneg h.1 (Int.le_of_lt (p2_ _)), ?_, ?_⟩
 ·exact Int.le_trans (blen_mul h.1 (Int.le_of_lt (p2_ _)) hM (h2 _)) (by omega)
 ·exact Int.le_trans (h2 _) (by omega)
theorem partsP (neg : Bool) (d : Kd) (b e : Int) (hb : 0 ≤ b ∧ b < d.I) (he : -420 ≤ e ∧ e ≤ 420) (w : World) :
  CallsV P 39 [.agg #[.bool neg, .int .u64 (splM d b), .int .i64 (splE d b)], .int .i64 e] w fun r w' => ∃ v l, r = .tuple #[v, .int .i64 (cmpI (2 * (fN (fX d b) (-e) % fD (fY d b) (-e))) (fD (fY d b) (-e)))] ∧ Ma.Cn 18446744073709551616 l (fN (fX d b) (-e) / fD (fY d b) (-e)) ∧ Grow w w' [As.ri 22 .u64 v l] := by
 refine enterW Tryd.func39 rfl Tryd.ntmps39 rfl ?_
 have hw0 := St.start w
 have hs := spl_bd hb
 have hxy := fX_blen hb
 have hMb : Ma.blen (splM d b) ≤ (53 : Nat) := (Ma.blen_le_iff hs.1 53).2 (by omega)
 have h1b : Ma.blen 1 = 1 := (by decide)
 have hup := blen_10 e.toNat
 have hdn := blen_10 (-e).toNat
 have hy0 := fY_pos d b
 have hD0 := fD_pos hy0 (-e)
 have hN0 := fN_nonneg hxy.1 (-e)
 have hNb := fN_blen hxy.1 (e := -e) (by omega) (by omega)
 have hDb := fD_blen hy0 (e := -e) (by omega) (by omega)
 refine c_seq (c_region ?_)
 refine l_box hw0 rfl rfl rfl (fun b0_0 w1 hw1 => ?_)
 try clear hw0
 refine l_assign rfl rfl rfl (l_assign rfl rfl rfl (l_nil (e_then ?_)))
 refine c_keep [1, 2] (.cons rfl (.cons rfl .nil)) ?_
 refine c_seq ?_
 have hw2 := hw1.drewn
 try clear hw1
 refine c_any (n := 12) [false, false, false, false, false, false, false, false, false, false, false, false] (fun wS => (As.blk b0_0 30 [.bool neg, .int .u64 (splM d b), .int .i64 (splE d b)]).ok wS) (by kernel_rfl) rfl rfl ?_
 apply a_take (L' := [true, false, false, false, false, false, false, false, false, false, false, false]) 0 rfl (by kernel_rfl) (by kernel_rfl) (by kernel_rfl) rfl rfl rfl rfl rfl (hw2.ok mem0)
 ·intro wS sS
  refine l_field fo30_1 rfl rfl rfl (l_nil ?_)
  exact e_got rfl
 apply a_take (L' := [true, true, false, false, false, false, false, false, false, false, false, false]) 1 rfl (by kernel_rfl) (by kernel_rfl) (by kernel_rfl) rfl rfl rfl rfl rfl (hw2.ok mem0)
 ·intro wS sS
  refine l_load_blk (blk_st sS) mem0 rfl rfl Tryd.underlying22 rfl rfl rfl ?_
  refine l_nil ?_
  exact e_got rfl
 apply a_take (L' := [true, true, false, true, false, false, false, false, false, false, false, false]) 3 rfl (by kernel_rfl) (by kernel_rfl) (by kernel_rfl) rfl rfl rfl rfl rfl (hw2.ok mem0)
 ·intro wS sS
  refine l_field fo30_2 rfl rfl rfl (l_nil ?_)
  exact e_got rfl
 apply a_take (L' := [true, true, false, true, true, false, false, false, false, false, false, false]) 4 rfl (by kernel_rfl) (by kernel_rfl) (by kernel_rfl) rfl rfl rfl rfl rfl (hw2.ok mem0)
 ·intro wS sS
  refine l_load_blk (blk_st sS) mem0 rfl rfl Tryd.underlying3 rfl rfl rfl ?_
  refine l_nil ?_
  exact e_got rfl
 refine a_two (L' := [true, true, true, true, true, false, false, false, false, false, false, false]) (L'' := [true, true, false, true, true, true, false, false, false, false, false, false]) 2 5 (by kernel_rfl) rfl rfl rfl rfl ?_ ?_
 ·skip
  refine l_call rfl rfl Tryd.func53 rfl rfl (.cons rfl .nil) (ofN (splM d b) (by omega) w1.drew) ?_
  rintro vm w3 ⟨_, lm, rfl, hcm, hG⟩
  have hw3 := hG _ _ _ _ hw2
  try clear hG hw2
  simp only [List.cons_append, List.nil_append] at hw3
  have hlm := cn_lenb hcm hMb
  refine l_nil ?_
  refine e_any (hw3.ok mem1) ?_
  refine a_one (L' := [true, true, true, true, true, true, false, false, false, false, false, false]) 5 (by kernel_rfl) rfl rfl ?_
  refine l_max rfl rfl rfl rfl ?_
  refine l_nil ?_
  refine e_any (hw3.ok mem1) ?_
  refine a_one (L' := [true, true, true, true, true, true, true, false, false, false, false, false]) 6 (by kernel_rfl) rfl rfl ?_
  refine l_turn (s := 22) (v' := .int .i64 (((splE d b).toNat : Nat) : Int)) rfl (congrArg (Value.int _) (by omega)) ?_
  refine l_call rfl rfl Tryd.func52 rfl rfl (.cons rfl (.cons rfl .nil)) (shlY (k := (splE d b).toNat) hcm (by omega) (by omega) (hw3.io mem0)) ?_
  rintro _ w4 ⟨vn, ln, rfl, hcn, hG⟩
  have hw4 := hG _ _ _ _ hw3
  try clear hG hw3
  simp only [List.cons_append, List.nil_append] at hw4
  refine l_nil ?_
  refine e_any (hw4.ok mem2) ?_
  apply a_take (L' := [true, true, true, true, true, true, true, true, false, false, false, false]) 7 rfl (by kernel_rfl) (by kernel_rfl) (by kernel_rfl) rfl rfl rfl rfl rfl (hw4.ok mem2)
  ·intro wS sS
   refine l_move rfl rfl rfl (l_nil ?_)
   exact e_got rfl
  apply a_take (L' := [true, true, true, true, true, true, true, true, true, false, false, false]) 8 rfl (by kernel_rfl) (by kernel_rfl) (by kernel_rfl) rfl rfl rfl rfl rfl (hw4.ok mem2)
  ·intro wS sS
   refine l_extract rfl rfl rfl rfl (l_nil ?_)
   exact e_got rfl
  apply a_take (L' := [true, true, true, true, true, true, true, true, true, true, false, false]) 9 rfl (by kernel_rfl) (by kernel_rfl) (by kernel_rfl) rfl rfl rfl rfl rfl (hw4.ok mem2)
  ·intro wS sS
   refine l_extract rfl rfl rfl rfl (l_nil ?_)
   exact e_got rfl
  apply a_take (L' := [true, true, true, true, true, true, true, true, true, true, true, false]) 10 rfl (by kernel_rfl) (by kernel_rfl) (by kernel_rfl) rfl rfl rfl rfl rfl (hw4.ok mem2)
  ·intro wS sS
   refine l_assign rfl rfl rfl (l_nil ?_)
   exact e_got rfl
  apply a_take (L' := [true, true, true, true, true, true, true, true, true, true, true, true]) 11 rfl (by kernel_rfl) (by kernel_rfl) (by kernel_rfl) rfl rfl rfl rfl rfl (hw4.ok mem2)
  ·intro wS sS
   refine l_assign rfl rfl rfl (l_nil ?_)
   exact e_got rfl
  refine a_done (by kernel_rfl) ?_
  refine e_then ?_
  refine c_keep [1, 2, 6] (.cons rfl (.cons rfl (.cons rfl .nil))) ?_
  refine c_seq (c_region ?_)
  refine v_lit hw4 rfl rfl Tryd.underlying62 ti22 rfl (.cons rfl (by first | rfl | assumption) .nil) rfl rfl rfl (fun b2_0 w5 hw5 => ?_)
  try clear hw4
  refine l_field fo30_2 rfl rfl rfl ?_
  refine l_load_blk hw5 mem3 rfl rfl Tryd.underlying3 rfl rfl rfl ?_
  refine l_neg rfl rfl rfl (w_i64 (by omega)) ?_
  refine l_max rfl rfl rfl rfl ?_
  refine l_turn (s := 31) (v' := .int .i64 (((-(splE d b)).toNat : Nat) : Int)) rfl (congrArg (Value.int _) (by omega)) ?_
  refine l_call rfl rfl Tryd.func52 rfl rfl (.cons rfl (.cons rfl .nil)) (shlY (k := (-(splE d b)).toNat) Cn1 (by simp) (by omega) (hw5.ibl mem0)) ?_
  rintro _ w6 ⟨vd, ld, rfl, hcd, hG⟩
  have hw6 := hG _ _ _ _ hw5
  try clear hG hw5
  simp only [List.cons_append, List.nil_append] at hw6
  have hcd2 : Ma.Cn 18446744073709551616 ld (fY d b) := by rw [Int.one_mul] at hcd; exact hcd
  refine l_move rfl rfl rfl (l_extract rfl rfl rfl rfl (l_extract rfl rfl rfl rfl (l_assign rfl rfl rfl (l_assign rfl rfl rfl (l_nil ?_)))))
  refine e_then ?_
  refine c_keep [1, 6, 8] (.cons rfl (.cons rfl (.cons rfl .nil))) ?_
  refine c_seq (c_region (l_move rfl rfl rfl ?_))
  refine l_max rfl rfl rfl rfl ?_
  refine l_turn (s := 37) (v' := .int .i64 ((e.toNat : Nat) : Int)) rfl (congrArg (Value.int _) (by omega)) ?_
  refine l_call rfl rfl Tryd.func54 rfl rfl (.cons rfl (.cons rfl .nil)) (pow10Z (e).toNat (by omega) w6) ?_
  rintro _ w7 ⟨vu, lu, rfl, hcu, hG⟩
  have hw7 := hG _ _ _ _ hw6
  try clear hG hw6
  simp only [List.cons_append, List.nil_append] at hw7
  refine l_move rfl rfl rfl (l_extract rfl rfl rfl rfl (l_extract rfl rfl rfl rfl (l_assign rfl rfl rfl (l_assign rfl rfl rfl (l_nil ?_)))))
  refine e_then ?_
  refine c_keep [1, 6, 8, 10] (.cons rfl (.cons rfl (.cons rfl (.cons rfl .nil)))) ?_
  refine c_seq (c_region (l_move rfl rfl rfl ?_))
  refine l_neg rfl rfl rfl (w_i64 (by omega)) ?_
  refine l_max rfl rfl rfl rfl ?_
  refine l_turn (s := 44) (v' := .int .i64 (((-e).toNat : Nat) : Int)) rfl (congrArg (Value.int _) (by omega)) ?_
  refine l_call rfl rfl Tryd.func54 rfl rfl (.cons rfl (.cons rfl .nil)) (pow10Z (-e).toNat (by omega) w7) ?_
  rintro _ w8 ⟨vv, lv, rfl, hcv, hG⟩
  have hw8 := hG _ _ _ _ hw7
  try clear hG hw7
  simp only [List.cons_append, List.nil_append] at hw8
  refine l_move rfl rfl rfl (l_extract rfl rfl rfl rfl (l_extract rfl rfl rfl rfl (l_assign rfl rfl rfl (l_assign rfl rfl rfl (l_nil ?_)))))
  refine e_then ?_
  refine c_keep [6, 8, 10, 12] (.cons rfl (.cons rfl (.cons rfl (.cons rfl .nil)))) ?_
  refine c_seq (c_region (l_move rfl rfl rfl (l_move rfl rfl rfl ?_)))
  refine l_call rfl rfl Tryd.func55 rfl rfl (.cons rfl (.cons rfl .nil)) (mulZ (m := 1100) (n := 1681) hcn hcu (by exact hxy.2.1) (by omega) (by omega) (hw8.io mem4) (hw8.io mem1)) ?_
  rintro _ w9 ⟨vn2, ln2, rfl, hcn2, hG⟩
  have hw9 := hG _ _ _ _ hw8
  try clear hG hw8
  simp only [List.cons_append, List.nil_append] at hw9
  have hcN : Ma.Cn 18446744073709551616 ln2 (fN (fX d b) (-e)) := by unfold fN; rw [Int.neg_neg]; exact hcn2
  have hllN := cn_lenb hcN hNb
  refine l_move rfl rfl rfl (l_extract rfl rfl rfl rfl (l_extract rfl rfl rfl rfl (l_assign rfl rfl rfl (l_nil (e_then ?_)))))
  refine c_keep [6, 8, 12] (.cons rfl (.cons rfl (.cons rfl .nil))) ?_
  refine c_seq (c_region (l_move rfl rfl rfl (l_move rfl rfl rfl ?_)))
  refine l_call rfl rfl Tryd.func55 rfl rfl (.cons rfl (.cons rfl .nil)) (mulZ (m := 1100) (n := 1681) hcd2 hcv (by exact hxy.2.2) (by omega) (by omega) (hw9.io mem3) (hw9.io mem1)) ?_
  rintro _ w10 ⟨vd2, ld2, rfl, hcd3, hG⟩
  have hw10 := hG _ _ _ _ hw9
  try clear hG hw9
  simp only [List.cons_append, List.nil_append] at hw10
  have hcD : Ma.Cn 18446744073709551616 ld2 (fD (fY d b) (-e)) := hcd3
  have hllD := cn_lenb hcD hDb
  refine l_move rfl rfl rfl (l_extract rfl rfl rfl rfl (l_extract rfl rfl rfl rfl (l_assign rfl rfl rfl (l_nil (e_then ?_)))))
  refine c_keep [6, 8] (.cons rfl (.cons rfl .nil)) ?_
  refine c_seq (c_region (l_move rfl rfl rfl (l_move rfl rfl rfl ?_)))
  refine l_call rfl rfl Tryd.func56 rfl rfl (.cons rfl (.cons rfl .nil)) (divZ hcN hcD (by omega) (by omega) (by omega) (by omega) (by omega) (hw10.io mem1) (hw10.io mem0)) ?_
  rintro _ w11 ⟨vq, vr, lq, lr, rfl, hcq, hcr, hG⟩
  have hw11 := hG _ _ _ _ hw10
  try clear hG hw10
  simp only [List.cons_append, List.nil_append] at hw11
  have hrb := Int.emod_lt_of_pos (fN (fX d b) (-e)) hD0
  have hr0 := Int.emod_nonneg (fN (fX d b) (-e)) (show fD (fY d b) (-e) ≠ 0 by omega)
  have hblr := Ma.blen_mono hr0 (Int.le_of_lt hrb)
  have hllr := cn_lenb hcr (k := 2881) (by omega)
  refine l_move rfl rfl rfl (l_extract rfl rfl rfl rfl (l_extract rfl rfl rfl rfl (l_extract rfl rfl rfl rfl (l_assign rfl rfl rfl (l_assign rfl rfl rfl ?_)))))
  refine l_assign rfl rfl rfl (l_nil (e_then ?_))
  refine c_keep [4, 8, 14] (.cons rfl (.cons rfl (.cons rfl .nil))) ?_
  refine c_seq (c_region (l_move rfl rfl rfl ?_))
  refine l_call rfl rfl Tryd.func52 rfl rfl (.cons rfl (.cons rfl .nil)) (shlY (k := 1) hcr (by omega) (by omega) (hw11.io mem1)) ?_
  rintro _ w12 ⟨vs, ls, rfl, hcs, hG⟩
  have hw12 := hG _ _ _ _ hw11
  try clear hG hw11
  simp only [List.cons_append, List.nil_append] at hw12
  have hcs2 : Ma.Cn 18446744073709551616 ls (2 * (fN (fX d b) (-e) % fD (fY d b) (-e))) := by
   have := hcs
   rw [show fN (fX d b) (-e) % (fD (fY d b) (-e)) * 2 ^ 1 = 2 * (fN (fX d b) (-e) % fD (fY d b) (-e)) from by omega] at this
   exact this
  have hblq : Ma.blen (2 * (fN (fX d b) (-e) % fD (fY d b) (-e))) ≤ (2883 : Nat) := by
   have := blen_mul (x := fN (fX d b) (-e) % fD (fY d b) (-e)) (y := 2) hr0 (by omega) (m := 2881) (n := 2) (by omega) (by decide)
   rw [Int.mul_comm] at this
   exact this
  have hlls := cn_lenb hcs2 (k := 2883) (by omega)
  refine l_move rfl rfl rfl (l_extract rfl rfl rfl rfl (l_extract rfl rfl rfl rfl (l_assign rfl rfl rfl (l_nil (e_then ?_)))))
  refine c_keep [4, 8, 14] (.cons rfl (.cons rfl (.cons rfl .nil))) ?_
  refine c_seq (c_region (l_move rfl rfl rfl (l_move rfl rfl rfl (l_move rfl rfl rfl ?_))))
  refine l_call rfl rfl Tryd.func57 rfl rfl (.cons rfl (.cons rfl .nil)) (cmpN vs vd2 ls ld2 (cnU hcs) (cnU hcD) (by omega) (by omega) w12 (hw12.io mem0) (hw12.io mem3)) ?_
  rintro _ w13 ⟨rfl, hG⟩
  have hw13 := hG _ _ _ _ hw12
  try clear hG hw12
  simp only [List.cons_append, List.nil_append] at hw13
  refine l_assign rfl rfl rfl (l_assign rfl rfl rfl (l_nil (e_then ?_)))
  refine c_keep [4, 5] (.cons rfl (.cons rfl .nil)) ?_
  refine c_ret ?_
  refine e_done2 Tryd.results39 rfl rfl ?_
  refine ⟨_, rfl, ?_⟩
  have hw14 := St.front1 hw13
  try clear hw13
  have hw15 := St.del (.tail (.tail (.tail (.tail (.tail (.tail (.tail (.tail (.tail (.tail (.tail .head))))))))))) hw14
  try clear hw14
  have hw16 := St.del (.tail (.tail (.tail (.tail (.tail (.tail (.tail (.tail (.tail (.tail .head)))))))))) hw15
  try clear hw15
  have hw17 := St.del (.tail (.tail (.tail (.tail (.tail (.tail (.tail (.tail (.tail .head))))))))) hw16
  try clear hw16
  have hw18 := St.del (.tail (.tail (.tail (.tail (.tail (.tail (.tail (.tail .head)))))))) hw17
  try clear hw17
  have hw19 := St.del (.tail (.tail (.tail (.tail (.tail (.tail (.tail .head))))))) hw18
  try clear hw18
  have hw20 := St.del (.tail (.tail (.tail (.tail (.tail (.tail .head)))))) hw19
  try clear hw19
  have hw21 := St.del (.tail (.tail (.tail (.tail (.tail .head))))) hw20
  try clear hw20
  have hw22 := St.del (.tail (.tail (.tail (.tail .head)))) hw21
  try clear hw21
  have hw23 := St.del (.tail (.tail (.tail .head))) hw22
  try clear hw22
  have hw24 := St.del (.tail (.tail .head)) hw23
  try clear hw23
  have hw25 := St.del (.tail .head) hw24
  try clear hw24
  refine ⟨vq, lq, ?_, hcq, hw25.grows⟩
  rw [← hcs2.val, ← hcD.val]
  all_goals rfl
 ·skip
  refine l_max rfl rfl rfl rfl ?_
  refine l_nil ?_
  refine e_any (hw2.ok mem0) ?_
  refine a_one (L' := [true, true, true, true, true, true, false, false, false, false, false, false]) 2 (by kernel_rfl) rfl rfl ?_
  refine l_call rfl rfl Tryd.func53 rfl rfl (.cons rfl .nil) (ofN (splM d b) (by omega) w1.drew) ?_
  rintro vm w26 ⟨_, lm, rfl, hcm, hG⟩
  have hw26 := hG _ _ _ _ hw2
  try clear hG hw2
  simp only [List.cons_append, List.nil_append] at hw26
  have hlm := cn_lenb hcm hMb
  refine l_nil ?_
  refine e_any (hw26.ok mem1) ?_
  refine a_one (L' := [true, true, true, true, true, true, true, false, false, false, false, false]) 6 (by kernel_rfl) rfl rfl ?_
  refine l_turn (s := 22) (v' := .int .i64 (((splE d b).toNat : Nat) : Int)) rfl (congrArg (Value.int _) (by omega)) ?_
  refine l_call rfl rfl Tryd.func52 rfl rfl (.cons rfl (.cons rfl .nil)) (shlY (k := (splE d b).toNat) hcm (by omega) (by omega) (hw26.io mem0)) ?_
  rintro _ w27 ⟨vn, ln, rfl, hcn, hG⟩
  have hw27 := hG _ _ _ _ hw26
  try clear hG hw26
  simp only [List.cons_append, List.nil_append] at hw27
  refine l_nil ?_
  refine e_any (hw27.ok mem2) ?_
  apply a_take (L' := [true, true, true, true, true, true, true, true, false, false, false, false]) 7 rfl (by kernel_rfl) (by kernel_rfl) (by kernel_rfl) rfl rfl rfl rfl rfl (hw27.ok mem2)
  ·intro wS sS
   refine l_move rfl rfl rfl (l_nil ?_)
   exact e_got rfl
  apply a_take (L' := [true, true, true, true, true, true, true, true, true, false, false, false]) 8 rfl (by kernel_rfl) (by kernel_rfl) (by kernel_rfl) rfl rfl rfl rfl rfl (hw27.ok mem2)
  ·intro wS sS
   refine l_extract rfl rfl rfl rfl (l_nil ?_)
   exact e_got rfl
  apply a_take (L' := [true, true, true, true, true, true, true, true, true, true, false, false]) 9 rfl (by kernel_rfl) (by kernel_rfl) (by kernel_rfl) rfl rfl rfl rfl rfl (hw27.ok mem2)
  ·intro wS sS
   refine l_extract rfl rfl rfl rfl (l_nil ?_)
   exact e_got rfl
  apply a_take (L' := [true, true, true, true, true, true, true, true, true, true, true, false]) 10 rfl (by kernel_rfl) (by kernel_rfl) (by kernel_rfl) rfl rfl rfl rfl rfl (hw27.ok mem2)
  ·intro wS sS
   refine l_assign rfl rfl rfl (l_nil ?_)
   exact e_got rfl
  apply a_take (L' := [true, true, true, true, true, true, true, true, true, true, true, true]) 11 rfl (by kernel_rfl) (by kernel_rfl) (by kernel_rfl) rfl rfl rfl rfl rfl (hw27.ok mem2)
  ·intro wS sS
   refine l_assign rfl rfl rfl (l_nil ?_)
   exact e_got rfl
  refine a_done (by kernel_rfl) ?_
  refine e_then ?_
  refine c_keep [1, 2, 6] (.cons rfl (.cons rfl (.cons rfl .nil))) ?_
  refine c_seq (c_region ?_)
  refine v_lit hw27 rfl rfl Tryd.underlying62 ti22 rfl (.cons rfl (by first | rfl | assumption) .nil) rfl rfl rfl (fun b2_0 w28 hw28 => ?_)
  try clear hw27
  refine l_field fo30_2 rfl rfl rfl ?_
  refine l_load_blk hw28 mem3 rfl rfl Tryd.underlying3 rfl rfl rfl ?_
  refine l_neg rfl rfl rfl (w_i64 (by omega)) ?_
  refine l_max rfl rfl rfl rfl ?_
  refine l_turn (s := 31) (v' := .int .i64 (((-(splE d b)).toNat : Nat) : Int)) rfl (congrArg (Value.int _) (by omega)) ?_
  refine l_call rfl rfl Tryd.func52 rfl rfl (.cons rfl (.cons rfl .nil)) (shlY (k := (-(splE d b)).toNat) Cn1 (by simp) (by omega) (hw28.ibl mem0)) ?_
  rintro _ w29 ⟨vd, ld, rfl, hcd, hG⟩
  have hw29 := hG _ _ _ _ hw28
  try clear hG hw28
  simp only [List.cons_append, List.nil_append] at hw29
  have hcd2 : Ma.Cn 18446744073709551616 ld (fY d b) := by rw [Int.one_mul] at hcd; exact hcd
  refine l_move rfl rfl rfl (l_extract rfl rfl rfl rfl (l_extract rfl rfl rfl rfl (l_assign rfl rfl rfl (l_assign rfl rfl rfl (l_nil ?_)))))
  refine e_then ?_
  refine c_keep [1, 6, 8] (.cons rfl (.cons rfl (.cons rfl .nil))) ?_
  refine c_seq (c_region (l_move rfl rfl rfl ?_))
  refine l_max rfl rfl rfl rfl ?_
  refine l_turn (s := 37) (v' := .int .i64 ((e.toNat : Nat) : Int)) rfl (congrArg (Value.int _) (by omega)) ?_
  refine l_call rfl rfl Tryd.func54 rfl rfl (.cons rfl (.cons rfl .nil)) (pow10Z (e).toNat (by omega) w29) ?_
  rintro _ w30 ⟨vu, lu, rfl, hcu, hG⟩
  have hw30 := hG _ _ _ _ hw29
  try clear hG hw29
  simp only [List.cons_append, List.nil_append] at hw30
  refine l_move rfl rfl rfl (l_extract rfl rfl rfl rfl (l_extract rfl rfl rfl rfl (l_assign rfl rfl rfl (l_assign rfl rfl rfl (l_nil ?_)))))
  refine e_then ?_
  refine c_keep [1, 6, 8, 10] (.cons rfl (.cons rfl (.cons rfl (.cons rfl .nil)))) ?_
  refine c_seq (c_region (l_move rfl rfl rfl ?_))
  refine l_neg rfl rfl rfl (w_i64 (by omega)) ?_
  refine l_max rfl rfl rfl rfl ?_
  refine l_turn (s := 44) (v' := .int .i64 (((-e).toNat : Nat) : Int)) rfl (congrArg (Value.int _) (by omega)) ?_
  refine l_call rfl rfl Tryd.func54 rfl rfl (.cons rfl (.cons rfl .nil)) (pow10Z (-e).toNat (by omega) w30) ?_
  rintro _ w31 ⟨vv, lv, rfl, hcv, hG⟩
  have hw31 := hG _ _ _ _ hw30
  try clear hG hw30
  simp only [List.cons_append, List.nil_append] at hw31
  refine l_move rfl rfl rfl (l_extract rfl rfl rfl rfl (l_extract rfl rfl rfl rfl (l_assign rfl rfl rfl (l_assign rfl rfl rfl (l_nil ?_)))))
  refine e_then ?_
  refine c_keep [6, 8, 10, 12] (.cons rfl (.cons rfl (.cons rfl (.cons rfl .nil)))) ?_
  refine c_seq (c_region (l_move rfl rfl rfl (l_move rfl rfl rfl ?_)))
  refine l_call rfl rfl Tryd.func55 rfl rfl (.cons rfl (.cons rfl .nil)) (mulZ (m := 1100) (n := 1681) hcn hcu (by exact hxy.2.1) (by omega) (by omega) (hw31.io mem4) (hw31.io mem1)) ?_
  rintro _ w32 ⟨vn2, ln2, rfl, hcn2, hG⟩
  have hw32 := hG _ _ _ _ hw31
  try clear hG hw31
  simp only [List.cons_append, List.nil_append] at hw32
  have hcN : Ma.Cn 18446744073709551616 ln2 (fN (fX d b) (-e)) := by unfold fN; rw [Int.neg_neg]; exact hcn2
  have hllN := cn_lenb hcN hNb
  refine l_move rfl rfl rfl (l_extract rfl rfl rfl rfl (l_extract rfl rfl rfl rfl (l_assign rfl rfl rfl (l_nil (e_then ?_)))))
  refine c_keep [6, 8, 12] (.cons rfl (.cons rfl (.cons rfl .nil))) ?_
  refine c_seq (c_region (l_move rfl rfl rfl (l_move rfl rfl rfl ?_)))
  refine l_call rfl rfl Tryd.func55 rfl rfl (.cons rfl (.cons rfl .nil)) (mulZ (m := 1100) (n := 1681) hcd2 hcv (by exact hxy.2.2) (by omega) (by omega) (hw32.io mem3) (hw32.io mem1)) ?_
  rintro _ w33 ⟨vd2, ld2, rfl, hcd3, hG⟩
  have hw33 := hG _ _ _ _ hw32
  try clear hG hw32
  simp only [List.cons_append, List.nil_append] at hw33
  have hcD : Ma.Cn 18446744073709551616 ld2 (fD (fY d b) (-e)) := hcd3
  have hllD := cn_lenb hcD hDb
  refine l_move rfl rfl rfl (l_extract rfl rfl rfl rfl (l_extract rfl rfl rfl rfl (l_assign rfl rfl rfl (l_nil (e_then ?_)))))
  refine c_keep [6, 8] (.cons rfl (.cons rfl .nil)) ?_
  refine c_seq (c_region (l_move rfl rfl rfl (l_move rfl rfl rfl ?_)))
  refine l_call rfl rfl Tryd.func56 rfl rfl (.cons rfl (.cons rfl .nil)) (divZ hcN hcD (by omega) (by omega) (by omega) (by omega) (by omega) (hw33.io mem1) (hw33.io mem0)) ?_
  rintro _ w34 ⟨vq, vr, lq, lr, rfl, hcq, hcr, hG⟩
  have hw34 := hG _ _ _ _ hw33
  try clear hG hw33
  simp only [List.cons_append, List.nil_append] at hw34
  have hrb := Int.emod_lt_of_pos (fN (fX d b) (-e)) hD0
  have hr0 := Int.emod_nonneg (fN (fX d b) (-e)) (show fD (fY d b) (-e) ≠ 0 by omega)
  have hblr := Ma.blen_mono hr0 (Int.le_of_lt hrb)
  have hllr := cn_lenb hcr (k := 2881) (by omega)
  refine l_move rfl rfl rfl (l_extract rfl rfl rfl rfl (l_extract rfl rfl rfl rfl (l_extract rfl rfl rfl rfl (l_assign rfl rfl rfl (l_assign rfl rfl rfl ?_)))))
  refine l_assign rfl rfl rfl (l_nil (e_then ?_))
  refine c_keep [4, 8, 14] (.cons rfl (.cons rfl (.cons rfl .nil))) ?_
  refine c_seq (c_region (l_move rfl rfl rfl ?_))
  refine l_call rfl rfl Tryd.func52 rfl rfl (.cons rfl (.cons rfl .nil)) (shlY (k := 1) hcr (by omega) (by omega) (hw34.io mem1)) ?_
  rintro _ w35 ⟨vs, ls, rfl, hcs, hG⟩
  have hw35 := hG _ _ _ _ hw34
  try clear hG hw34
  simp only [List.cons_append, List.nil_append] at hw35
  have hcs2 : Ma.Cn 18446744073709551616 ls (2 * (fN (fX d b) (-e) % fD (fY d b) (-e))) := by
   have := hcs
   rw [show fN (fX d b) (-e) % (fD (fY d b) (-e)) * 2 ^ 1 = 2 * (fN (fX d b) (-e) % fD (fY d b) (-e)) from by omega] at this
   exact this
  have hblq : Ma.blen (2 * (fN (fX d b) (-e) % fD (fY d b) (-e))) ≤ (2883 : Nat) := by
   have := blen_mul (x := fN (fX d b) (-e) % fD (fY d b) (-e)) (y := 2) hr0 (by omega) (m := 2881) (n := 2) (by omega) (by decide)
   rw [Int.mul_comm] at this
   exact this
  have hlls := cn_lenb hcs2 (k := 2883) (by omega)
  refine l_move rfl rfl rfl (l_extract rfl rfl rfl rfl (l_extract rfl rfl rfl rfl (l_assign rfl rfl rfl (l_nil (e_then ?_)))))
  refine c_keep [4, 8, 14] (.cons rfl (.cons rfl (.cons rfl .nil))) ?_
  refine c_seq (c_region (l_move rfl rfl rfl (l_move rfl rfl rfl (l_move rfl rfl rfl ?_))))
  refine l_call rfl rfl Tryd.func57 rfl rfl (.cons rfl (.cons rfl .nil)) (cmpN vs vd2 ls ld2 (cnU hcs) (cnU hcD) (by omega) (by omega) w35 (hw35.io mem0) (hw35.io mem3)) ?_
  rintro _ w36 ⟨rfl, hG⟩
  have hw36 := hG _ _ _ _ hw35
  try clear hG hw35
  simp only [List.cons_append, List.nil_append] at hw36
  refine l_assign rfl rfl rfl (l_assign rfl rfl rfl (l_nil (e_then ?_)))
  refine c_keep [4, 5] (.cons rfl (.cons rfl .nil)) ?_
  refine c_ret ?_
  refine e_done2 Tryd.results39 rfl rfl ?_
  refine ⟨_, rfl, ?_⟩
  have hw37 := St.front1 hw36
  try clear hw36
  have hw38 := St.del (.tail (.tail (.tail (.tail (.tail (.tail (.tail (.tail (.tail (.tail (.tail .head))))))))))) hw37
  try clear hw37
  have hw39 := St.del (.tail (.tail (.tail (.tail (.tail (.tail (.tail (.tail (.tail (.tail .head)))))))))) hw38
  try clear hw38
  have hw40 := St.del (.tail (.tail (.tail (.tail (.tail (.tail (.tail (.tail (.tail .head))))))))) hw39
  try clear hw39
  have hw41 := St.del (.tail (.tail (.tail (.tail (.tail (.tail (.tail (.tail .head)))))))) hw40
  try clear hw40
  have hw42 := St.del (.tail (.tail (.tail (.tail (.tail (.tail (.tail .head))))))) hw41
  try clear hw41
  have hw43 := St.del (.tail (.tail (.tail (.tail (.tail (.tail .head)))))) hw42
  try clear hw42
  have hw44 := St.del (.tail (.tail (.tail (.tail (.tail .head))))) hw43
  try clear hw43
  have hw45 := St.del (.tail (.tail (.tail (.tail .head)))) hw44
  try clear hw44
  have hw46 := St.del (.tail (.tail (.tail .head))) hw45
  try clear hw45
  have hw47 := St.del (.tail (.tail .head)) hw46
  try clear hw46
  have hw48 := St.del (.tail .head) hw47
  try clear hw47
  refine ⟨vq, lq, ?_, hcq, hw48.grows⟩
  rw [← hcs2.val, ← hcD.val]
  all_goals rfl
theorem roundedP (neg : Bool) (d : Kd) (b e : Int) (hb : 0 ≤ b ∧ b < d.I) (he : -420 ≤ e ∧ e ≤ 420) (w : World) :
  CallsV P 24 [.agg #[.bool neg, .int .u64 (splM d b), .int .i64 (splE d b)], .int .i64 e] w fun r w' => ∃ v, r = v ∧ Grow w w' [As.iv v (bys (dtx (rnE (fN (fX d b) (-e)) (fD (fY d b) (-e)))))] := by
 refine enterW Tryd.func24 rfl Tryd.ntmps24 rfl ?_
 have hw0 := St.start w
 have hs := spl_bd hb
 have hxy := fX_blen hb
 have hy0 := fY_pos d b
 have hD0 := fD_pos hy0 (-e)
 have hN0 := fN_nonneg hxy.1 (-e)
 have hNb := fN_blen hxy.1 (e := -e) (by omega) (by omega)
 have hQ0 : 0 ≤ fN (fX d b) (-e) / fD (fY d b) (-e) := Int.ediv_nonneg hN0 (Int.le_of_lt hD0)
 have hQb := Int.le_trans (Ma.blen_mono hQ0 (Int.ediv_le_self _ hN0)) hNb
 refine c_seq (c_region ?_)
 refine l_box hw0 rfl rfl rfl (fun b0_0 w1 hw1 => ?_)
 try clear hw0
 refine l_assign rfl rfl rfl (l_nil (e_then ?_))
 refine c_keep [1, 2] (.cons rfl (.cons rfl .nil)) ?_
 refine c_seq (c_region ?_)
 refine l_load_agg hw1 mem0 rfl rfl Tryd.underlying30 rfl tz30 rfl (.take (.take (.take .nil))) ?_
 refine l_move rfl rfl rfl ?_
 refine l_call rfl rfl Tryd.func39 rfl rfl (.cons rfl (.cons rfl .nil)) (partsP neg d b e hb he w1) ?_
 rintro _ w2 ⟨vq, lq, rfl, hcq, hG⟩
 have hw2 := hG _ _ _ _ hw1
 try clear hG hw1
 simp only [List.cons_append, List.nil_append] at hw2
 have hUq := cnU hcq
 have hllq := cn_lenb hcq hQb
 have hlim := limb_of (cnU hcq) 0
 rw [Int.pow_zero, Int.ediv_one, show nv lq = _ from hcq.val] at hlim
 have hodd : fN (fX d b) (-e) / fD (fY d b) (-e) % 2 = 1 → (0 : Int) < (lq.length : Int) := fun h => by
  rcases Nat.eq_zero_or_pos lq.length with h1 | h1
  ·rw [List.eq_nil_of_length_eq_zero h1, show ([] : List Int).getD 0 0 = 0 from rfl] at hlim
   omega
  ·omega
 have hb1 : Ma.blen (fN (fX d b) (-e) / fD (fY d b) (-e) + 1) ≤ (2900 : Nat) := (Ma.blen_le_iff (by omega) 2900).2 (by have h1 := (Ma.blen_le_iff hQ0 2881).1 hQb; have h2 := Ma.pow_mono (show (1 : Int) ≤ 2 by omega) (show 2882 ≤ 2900 by omega); have h3 : (2 : Int) ^ 2882 = 2 ^ 2881 * 2 := Int.pow_succ ..; have h4 := p2_ 2881; omega)
 refine l_move rfl rfl rfl (l_extract rfl rfl rfl rfl (l_extract rfl rfl rfl rfl (l_assign rfl rfl rfl (l_assign rfl rfl rfl (l_nil ?_)))))
 refine e_then ?_
 refine c_keep [5, 6] (.cons rfl (.cons rfl .nil)) ?_
 refine c_seq (c_seq (c_region (l_move rfl rfl rfl ?_)))
 refine l_gtr rfl rfl rfl rfl ?_
 refine l_move rfl rfl rfl ?_
 apply l_or (q := (cmpI (2 * (fN (fX d b) (-e) % fD (fY d b) (-e))) (fD (fY d b) (-e)) = 0 ∧ (0 : Int) < (lq.length : Int)) ∧ lq.getD 0 0 % 2 = 1) 14 [5] rfl rfl (.cons rfl (.cons rfl .nil)) rfl rfl (fun _ => rfl) rfl rfl rfl
 ·intro hg2_3
  refine l_move rfl rfl rfl ?_
  refine l_eql rfl rfl rfl rfl ?_
  refine l_move rfl rfl rfl ?_
  apply l_and (q := (0 : Int) < (lq.length : Int)) 3 [5, 15] rfl rfl (.cons rfl (.cons rfl (.cons rfl .nil))) rfl rfl (fun _ => rfl) rfl rfl rfl
  ·intro hg2_6
   refine l_move rfl rfl rfl ?_
   refine v_leni rfl rfl Tryd.underlying62 rfl (by first | exact hw2.io mem0 | exact hw2.ibl mem1 | assumption) ?_
   refine l_gtr rfl rfl rfl rfl ?_
   refine l_nil ?_
   exact e_stays rfl (.cons rfl (congrArg Value.bool (decide_eq_true hg2_6).symm) (.cons rfl rfl (.cons rfl rfl .nil)))
   all_goals infer_instance
  refine l_move rfl rfl rfl ?_
  apply l_and (q := lq.getD 0 0 % 2 = 1) 5 [5, 15] rfl rfl (.cons rfl (.cons rfl (.cons rfl .nil))) rfl rfl (fun _ => rfl) rfl rfl rfl
  ·intro hg2_11
   refine l_move rfl rfl rfl ?_
   refine v_getr (j := 0) rfl rfl rfl rfl Tryd.underlying62 tz22 Tryd.underlying22 rfl rfl (by first | exact hw2.io mem0 | exact hw2.ibl mem1 | assumption) (by assumption) rfl (by omega) (by first | omega | (simp; done) | (simp; omega)) (fun hb2_12 => ?_)
   refine l_bits rfl rfl rfl rfl rfl (and_mask 1 (d := 2) (by omega) (by omega) (by decide) (by decide)) ?_
   refine l_eql rfl rfl rfl rfl ?_
   refine l_nil ?_
   exact e_stays rfl (.cons rfl (congrArg Value.bool (decide_eq_true hg2_11).symm) (.cons rfl rfl (.cons rfl rfl .nil)))
   all_goals infer_instance
  refine l_nil ?_
  exact e_stays rfl (.cons rfl (congrArg Value.bool (decide_eq_false hg2_3).symm) (.cons rfl rfl .nil))
  all_goals infer_instance
 refine l_nil (e_then ?_)
 refine c_keep [5, 30] (.cons rfl (.cons rfl .nil)) ?_
 first | refine c_cond rfl (fun hc0 => ?_) (fun hc0 => ?_) | refine c_condb rfl (fun hc0 => ?_) (fun hc0 => ?_)
 ·skip
  refine c_region (l_move rfl rfl rfl ?_)
  refine v_lit hw2 rfl rfl Tryd.underlying62 ti22 rfl (.cons rfl (by first | rfl | assumption) .nil) rfl rfl rfl (fun b3_1 w3 hw3 => ?_)
  try clear hw2
  refine l_call rfl rfl Tryd.func40 rfl rfl (.cons rfl (.cons rfl .nil)) (addS (cnU hcq) (U.one (x := 1) (by omega)) (by omega) (by simp) (by rw [show nv lq = _ from hcq.val]; omega) (by decide) (by rw [show nv lq = _ from hcq.val, show nv [1] = 1 from rfl]; omega) (hw3.io mem1) (hw3.ibl mem0)) ?_
  rintro _ w4 ⟨vs, ls, rfl, hcs, hG⟩
  have hw4 := hG _ _ _ _ hw3
  try clear hG hw3
  simp only [List.cons_append, List.nil_append] at hw4
  have hlls := cn_lenb hcs (k := 2900) (by rw [show nv lq = _ from hcq.val]; exact hb1)
  refine l_move rfl rfl rfl (l_extract rfl rfl rfl rfl (l_extract rfl rfl rfl rfl (l_assign rfl rfl rfl (l_nil (e_then ?_)))))
  refine c_keep [5] (.cons rfl .nil) ?_
  refine c_seq (c_region (l_move rfl rfl rfl ?_))
  refine l_call rfl rfl Tryd.func41 rfl rfl (.cons rfl .nil) (textN vs ls (cnU hcs) (by omega) w4 (hw4.io mem0)) ?_
  rintro _ w5 ⟨rfl, hG⟩
  have hw5 := hG _ _ _ _ hw4
  try clear hG hw4
  simp only [List.cons_append, List.nil_append] at hw5
  refine v_tobytes hw5 rfl rfl Tryd.underlying9 Tryd.underlying25 Tryd.underlying5 rfl (fun v4_2 w6 hw6 => ?_)
  try clear hw5
  refine l_assign rfl rfl rfl (l_nil (e_then ?_))
  refine c_keep [4] (.cons rfl .nil) ?_
  refine c_ret ?_
  refine e_done1 Tryd.results24 rfl ?_
  refine ⟨_, rfl, ?_⟩
  have hw7 := St.del (.tail (.tail (.tail (.tail .head)))) hw6
  try clear hw6
  have hw8 := St.del (.tail (.tail (.tail .head))) hw7
  try clear hw7
  have hw9 := St.del (.tail (.tail .head)) hw8
  try clear hw8
  have hw10 := St.del (.tail .head) hw9
  try clear hw9
  refine ⟨_, rfl, (hw10.cast ?_).grows⟩
  have e : nv ls = rnE (fN (fX d b) (-e)) (fD (fY d b) (-e)) := by
   rw [show nv ls = _ from hcs.val, show nv lq = _ from hcq.val]
   unfold rnE
   rw [if_pos (by omega)]
   rfl
  rw [e]
 ·skip
  refine c_skip (e_then ?_)
  refine c_keep [5] (.cons rfl .nil) ?_
  refine c_seq (c_region (l_move rfl rfl rfl ?_))
  refine l_call rfl rfl Tryd.func41 rfl rfl (.cons rfl .nil) (textN vq lq (cnU hcq) (by omega) w2 (hw2.io mem0)) ?_
  rintro _ w11 ⟨rfl, hG⟩
  have hw11 := hG _ _ _ _ hw2
  try clear hG hw2
  simp only [List.cons_append, List.nil_append] at hw11
  refine v_tobytes hw11 rfl rfl Tryd.underlying9 Tryd.underlying25 Tryd.underlying5 rfl (fun v4_2 w12 hw12 => ?_)
  try clear hw11
  refine l_assign rfl rfl rfl (l_nil (e_then ?_))
  refine c_keep [4] (.cons rfl .nil) ?_
  refine c_ret ?_
  refine e_done1 Tryd.results24 rfl ?_
  refine ⟨_, rfl, ?_⟩
  have hw13 := St.del (.tail (.tail .head)) hw12
  try clear hw12
  have hw14 := St.del (.tail .head) hw13
  try clear hw13
  refine ⟨_, rfl, (hw14.cast ?_).grows⟩
  have e : nv lq = rnE (fN (fX d b) (-e)) (fD (fY d b) (-e)) := by
   rw [show nv lq = _ from hcq.val]
   unfold rnE
   rw [if_neg (fun h => hc0 (by rcases h with h | h; exact .inl h; exact .inr ⟨⟨h.1, hodd h.2⟩, by omega⟩))]
  rw [e]
end Go.Proofs.YtojjlipcjdaejaaDoor.W
