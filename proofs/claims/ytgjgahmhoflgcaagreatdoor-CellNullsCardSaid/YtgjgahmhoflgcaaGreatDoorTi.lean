/- walks of digit.Count, Pad, scaled's size, Cmp, Print -/
import Derived.Laws.Cover3
import Derived.Lib.ItoaMem
import Derived.Test.YtgjgahmhoflgcaaGreatDoorTg
set_option linter.unusedVariables false
set_option linter.unusedSimpArgs false
set_option maxRecDepth 10000
namespace Go.Proofs.YtgjgahmhoflgcaaGreatDoor.W
open Go.Vc Go.RowKit Tryz
theorem p10 (k : Nat) : (0 : Int) < 10 ^ k := Ma.pow_pos (by omega) k
def dl (m : Int) : Nat := (dt0 m.toNat).length
theorem dl_zero : dl 0 = 0 := by unfold dl; rw [show (0 : Int).toNat = 0 from rfl, Z6a]; rfl
theorem dl_pos {m : Int} (h : 0 < m) : dl m = dl (m / 10) + 1 := by unfold dl; rw [Z5N h, List.length_append]; rfl
theorem dl_le : ∀ {n : Nat} {m : Int}, 0 ≤ m → m < 10 ^ n → dl m ≤ n
 | 0, m, h0, h => by
  rw [show m = 0 by simp at h; omega, dl_zero]
  exact Nat.le_refl _
 | n + 1, m, h0, h => by
  rcases Int.lt_or_eq_of_le h0 with h1 | h1
  ·rw [dl_pos h1]
   rw [Int.pow_succ] at h
   have := dl_le (n := n) (m := m / 10) ZO ZO
   omega
  rw [← h1, dl_zero]
  omega
theorem dl_dtx {m : Int} (h : 0 < m) : (dtx m).length = dl m := by unfold dtx dl; rw [if_neg (by omega)]
section
variable {P : Program} {N : Nat} {ρ : Env} {w : World} {Q : Z26} {ops : Array Oper} {rest : List Oper} {d : Nat} {ty : TypeId} {pos : String} {af : Array Edge} {g : Option (Nat × Bool)}
theorem l_indexA {x ix : Operand} {k : IntKind} {i : Int} {j m b : Nat} {T e : TypeId} (hg : Z0t ops ρ g = true) (hN : Nat.blt d N = true) (hT : P.underlying T = some (.array m e)) (hsz : (P.info? e).map (·.size) = some 1)
  (hx : Z0g ρ x = some (.pointer (some ⟨b, 0, none⟩))) (hi : Z0g ρ ix = some (.int k i)) (hij : i = (j : Int)) (hb : j < m)
  (nx : RunL P N ops Q rest ((d, .pointer (some ⟨b, j, none⟩)) :: ρ) w) : RunL P N ops Q (⟨some d, .indexAddr T x ix, ty, pos, af, g⟩ :: rest) ρ w := by
 subst hij
 exact Z1n hg rfl hN (fun a ha => by
  cases hq : P.info? e with
  | none => simp [hq] at hsz
  | some inf =>
   have h1 : inf.size = 1 := by simpa [hq] using hsz
   have h2 : (⟨b, 0, none⟩ : Addr).add j = ⟨b, j, none⟩ := by rw [Lib.add_plain, Nat.zero_add]
   simp [execOp, ha.eval hx, ha.eval hi, Instr.indexAt, Instr.sureAddr, asIntOf, run_underlying hT, hb, sizeOf, typeInfo, hq, h1, h2]) nx
theorem l_sliceA {x hi : Operand} {k : IntKind} {i : Int} {h m b : Nat} {T e : TypeId} (hg : Z0t ops ρ g = true) (hN : Nat.blt d N = true) (hT : P.underlying T = some (.array m e)) (hsz : (P.info? e).map (·.size) = some 1)
  (hx : Z0g ρ x = some (.pointer (some ⟨b, 0, none⟩))) (he : Z0g ρ hi = some (.int k i)) (hij : i = (h : Int)) (hb : h ≤ m)
  (nx : RunL P N ops Q rest ((d, .slice (some ⟨b, 0, none⟩) h m) :: ρ) w) : RunL P N ops Q (⟨some d, .slice T x none (some hi) none, ty, pos, af, g⟩ :: rest) ρ w := by
 subst hij
 exact Z1n hg rfl hN (fun a ha => by
  cases hq : P.info? e with
  | none => simp [hq] at hsz
  | some inf =>
   have h1 : inf.size = 1 := by simpa [hq] using hsz
   have h2 : (⟨b, 0, none⟩ : Addr).add 0 = ⟨b, 0, none⟩ := by rw [Lib.add_plain]
   simp [execOp, ha.eval hx, ha.eval he, Instr.sliceAt, Instr.sureAddr, Instr.sliceBounds, Instr.sliceBound, asIntOf, run_underlying hT, hb, sizeOf, typeInfo, hq, h1, h2]) nx
end
theorem setAt_of : ∀ {cs : List Value} {o : Nat} (h : o < cs.length) (x : Value), Z1F cs o x (cs.set o x)
 | c :: cs, 0, _, x => .zero
 | c :: cs, o + 1, h, x => .succ (setAt_of (cs := cs) (o := o) (by simpa using h) x)
theorem dtx_ten {z : Int} (h : 9 < z) : (dtx z).length = (dtx (z / 10)).length + 1 := by
 rw [dl_dtx (by omega), dl_dtx (by omega), dl_pos (by omega)]
theorem dtx_one {z : Int} (h0 : 0 ≤ z) (h : ¬ 9 < z) : (dtx z).length = 1 := by
 rcases Int.lt_or_eq_of_le h0 with h1 | h1
 ·rw [dl_dtx h1, dl_pos h1, show z / 10 = 0 from by omega, dl_zero]
 rw [← h1]; rfl
theorem dtx_pos {z : Int} (hz : 0 ≤ z) : 1 ≤ (dtx z).length := by
 unfold dtx
 split
 ·exact Nat.le_refl _
 rcases Int.lt_or_le 0 z with h | h
 ·have := dt0_ne h
  exact List.length_pos_iff.2 this
 omega
theorem dtx_le {x : Int} (hx : 0 ≤ x ∧ x ≤ 18446744073709551615) : (dtx x).length ≤ 20 := by
 rcases Int.lt_or_eq_of_le hx.1 with h1 | h1
 ·rw [dl_dtx h1]
  exact dl_le hx.1 (by rw [show (10 : Int) ^ 20 = 100000000000000000000 from by decide]; omega)
 rw [← h1]; decide
theorem countD (x : Int) (hx : 0 ≤ x ∧ x ≤ 18446744073709551615) (w : World) :
  Z0f P 160 [.int .u64 x] w fun r w' => r = .int .i64 ((dtx x).length : Int) ∧ w = w' := by
 refine Z0o func160 rfl ntmps160 rfl ?_
 have hdx : (dtx x).length ≤ 20 := dtx_le hx
 refine Z03 (Z00 (Zg (Z01 (Z02 ?_))))
 refine Zk [0] ?_
 refine Z03 (Z00 (Zg (Z01 (Z02 (Z03 (Z0d ?_))))))
 refine Z0z (ι := Nat × Int) (fun (z0 : Nat × Int) => match z0 with | ⟨n, z⟩ => z.toNat) (fun (z0 : Nat × Int) (w' : World) => match z0 with | ⟨n, z⟩ => w = w' ∧ n + (dtx z).length = (dtx x).length + 1 ∧ 0 ≤ z ∧ z ≤ 18446744073709551615 ∧ 1 ≤ n) (fun (z0 : Nat × Int) => match z0 with | ⟨n, z⟩ => [(0, .int .u64 z), (3, .int .i64 (n : Int))]) [] (1, x) ?_ .nil ?_ ?_
 ·exact ⟨rfl, ZO, ZO, ZO, ZO⟩
 ·exact (.cons rfl ZN (.cons rfl ZN .nil))
 rintro ⟨n, z⟩ _ ⟨rfl, hn, hz0, hz1, hn1⟩
 show RunC P _ _ _ (_ :: _) _
 have hdz1 := dtx_pos hz0
 refine Z03 (Z03 (Z00 (Zm ?_)))
 refine Zw ?_
 refine Z01 (Z02 ?_)
 refine Zk [0, 3, 5] ?_
 (first | refine Z0c rfl ?_ ?_ | refine Z08 rfl ?_ ?_) <;> intro hc0
 ·refine Z0a (Z02 ?_)
  refine Zk [0, 3] ?_
  refine Z0d (Z03 (Z00 (Zm ?_)))
  refine Z2D rfl rfl rfl rfl ZO (Z78 ZO) ?_
  refine Zg (Z01 (Z02 ?_))
  refine Zk [0, 3] ?_
  refine Z00 (Zm ?_)
  refine Z0y rfl rfl rfl rfl (Z0l ZO) ?_
  refine Zg (Z01 ?_)
  refine Z0F ?_
  refine Z0p (i := (n, z)) (n + 1, z / 10) ?_ ?_ .nil ?_
  ·first | omega | (simp; omega)
  ·have hdz := dtx_ten (z := z) ZO
   exact ⟨rfl, ZO, ZO, ZO, ZO⟩
  exact (.cons rfl ZN (.cons rfl ZN .nil))
 refine Z0H ?_
 refine Z06 ?_
 refine Z06 ?_
 refine Z0h ?_
 refine Z02 ?_
 refine Zk [3] ?_
 refine Z03 (Z00 (Zm (Zg (Z01 (Z02 ?_)))))
 refine Zk [2] ?_
 refine Z0i ?_
 refine Z0e results160 rfl ?_
 refine ⟨_, rfl, ?_⟩
 have h1 := dtx_one (z := z) hz0 ZO
 exact ⟨congrArg (Value.int .i64) ZO, rfl⟩
theorem Z5P {x : Int} (h : 9 < x) : dtx x = dtx (x / 10) ++ [dig (x % 10)] := by
 unfold dtx
 rw [if_neg (by omega), if_neg (by omega), Z5N (by omega)]
theorem dtx_sm {x : Int} (h0 : 0 ≤ x) (h : ¬ 9 < x) : dtx x = [dig x] := by
 rcases Int.lt_or_eq_of_le h0 with h1 | h1
 ·unfold dtx
  rw [if_neg ZO, Z5N h1, show x / 10 = 0 from by omega, show (0 : Int).toNat = 0 from rfl, Z6a, show x % 10 = x from by omega]
  rfl
 rw [← h1]; rfl
theorem dtx_at : ∀ (k : Nat) {x : Int}, 0 ≤ x → k < (dtx x).length → (dtx x).getD ((dtx x).length - 1 - k) 0 = dig (x / 10 ^ k % 10)
 | 0, x, h0, hk => by
  rcases Int.lt_or_le 9 x with h | h
  ·rw [Z5P h]
   simp
  rw [dtx_sm h0 ZO]
  simp
  rw [show x % 10 = x from by omega]
 | k + 1, x, h0, hk => by
  rcases Int.lt_or_le 9 x with h | h
  ·have ih := dtx_at k (x := x / 10) ZO (by rw [Z5P h] at hk; simp at hk; omega)
   have e : x / 10 / 10 ^ k = x / 10 ^ (k + 1) := by rw [Int.ediv_ediv_of_nonneg ZO, Int.pow_succ, Int.mul_comm]
   rw [e] at ih
   rw [← ih, Z5P h]
   have hk2 : k < (dtx (x / 10)).length := by rw [Z5P h] at hk; simp at hk; omega
   simp only [List.length_append, List.length_cons, List.length_nil]
   rw [show (dtx (x / 10)).length + (0 + 1) - 1 - (k + 1) = (dtx (x / 10)).length - 1 - k from by omega]
   simp only [List.getD_eq_getElem?_getD]
   rw [List.getElem?_append_left ZO]
  rw [dtx_sm h0 ZO] at hk
  simp at hk
theorem bys_set' (l : List UInt8) (j : Nat) (x : UInt8) : bys (l.set j x) = (bys l).set j (.int .u8 (x.toNat : Int)) := by
 unfold bys
 rw [List.map_set]
theorem take_is {cs D : List UInt8} (h : D.length ≤ cs.length) (k : ∀ j, j < D.length → cs.getD j 0 = D.getD j 0) : cs.take D.length = D := by
 apply List.ext_getElem (by simp; omega)
 intro j h1 h2
 have := k j h2
 simp only [List.getD_eq_getElem?_getD] at this
 rw [List.getElem?_eq_getElem ZO, List.getElem?_eq_getElem h2] at this
 simpa using this
def padW (x : Int) (n : Nat) : List UInt8 := List.replicate (n - (dtx x).length) 48 ++ dtx x
theorem padW_len {x : Int} {n : Nat} (h : (dtx x).length ≤ n) : (padW x n).length = n := by unfold padW; simp; omega
theorem dtx_lt {x : Int} (h0 : 0 ≤ x) : x < 10 ^ (dtx x).length := by
 rcases Int.lt_or_eq_of_le h0 with h | h
 ·have : ∀ (k : Nat) {x : Int}, 0 ≤ x → (dtx x).length = k → x < 10 ^ k := by
   intro k
   induction k with
   | zero =>
    intro x h0 h
    have := dtx_pos h0
    omega
   | succ k ih =>
    intro x h0 h
    rcases Int.lt_or_le 9 x with h9 | h9
    ·have := ih (x := x / 10) ZO (by have := dtx_ten h9; omega)
     rw [Int.pow_succ]
     omega
    have : (1 : Int) ≤ 10 ^ k := by have := p10 k; omega
    rw [Int.pow_succ]
    omega
  exact this _ h0 rfl
 subst h; decide
theorem padW_at (k : Nat) {x : Int} (n : Nat) (h0 : 0 ≤ x) (hn : (dtx x).length ≤ n) (hk : k < n) : (padW x n).getD (n - 1 - k) 0 = dig (x / 10 ^ k % 10) := by
 unfold padW
 rw [List.getD_eq_getElem?_getD]
 by_cases h : k < (dtx x).length
 ·rw [List.getElem?_append_right (by simp; omega), ← dtx_at k h0 h, List.getD_eq_getElem?_getD]
  simp only [List.length_replicate]
  rw [show n - 1 - k - (n - (dtx x).length) = (dtx x).length - 1 - k from by omega]
 rw [List.getElem?_append_left (by simp; omega), List.getElem?_replicate, if_pos ZO]
 have h1 := dtx_lt h0
 have h2 : (10 : Int) ^ (dtx x).length ≤ 10 ^ k := by
  obtain ⟨m, rfl⟩ : ∃ m, k = (dtx x).length + m := ⟨k - (dtx x).length, ZO⟩
  rw [Int.pow_add]
  have := p10 m
  have := p10 (dtx x).length
  have h3 := Int.mul_le_mul_of_nonneg_left (show (1 : Int) ≤ 10 ^ m by omega) (show (0 : Int) ≤ 10 ^ (dtx x).length by omega)
  rwa [Int.mul_one] at h3
 rw [Int.ediv_eq_zero_of_lt h0 ZO]
 rfl
theorem padG (x : Int) (hx : 0 ≤ x ∧ x ≤ 18446744073709551615) (n : Nat) (hxn : (dtx x).length ≤ n) (hn20 : n ≤ 20) (w : World) :
  Z0f P 113 [.int .u64 x, .int .i64 (n : Int)] w fun r w' => ∃ v, r = .tuple #[v, .int .i64 0] ∧ Grow w w' [As.rb 5 v (padW x n)] := by
 refine Z0o func113 rfl ntmps113 rfl ?_
 have H0 := St.start w
 have hn1 := dtx_pos hx.1
 have hpl := padW_len hxn
 refine Z03 (Z00 (Zg (Zg (Z01 (Z02 ?_)))))
 refine Zk [0, 1] ?_
 refine Z03 (Z0d (Z03 (Z00 (Zm ?_))))
 refine Zl ?_
 refine Zm ?_
 apply l_or 2 [0, 1] rfl rfl (.cons rfl (.cons rfl (.cons rfl .nil))) rfl rfl (fun _ => rfl) rfl rfl rfl
 ·intro hg1_3
  refine Zm ?_
  refine Zw ?_
  refine Z01 ?_
  exact Z0O rfl (.cons rfl (ZF hg1_3) (.cons rfl rfl (.cons rfl rfl .nil)))
 refine Zg (Z01 (Z02 ?_))
 refine Zk [0, 1, 8] ?_
 (first | refine Z0c rfl ?_ ?_ | refine Z08 rfl ?_ ?_) <;> intro hc0
 ·exact absurd hc0 ZO
 refine Z03 (Z00 (Zm ?_))
 refine Zp func160 (countD x hx w) ?_
 refine Zm ?_
 refine Zw ?_
 refine Zg (Z01 (Z02 ?_))
 refine Zk [0, 1, 15] ?_
 (first | refine Z0c rfl ?_ ?_ | refine Z08 rfl ?_ ?_) <;> intro hc1
 ·exact absurd hc1 ZO
 refine Z0a ?_
 refine Z0F ?_
 refine Z02 ?_
 refine Zk [0, 1] ?_
 refine Z03 (Z00 ?_)
 refine Z0X H0 ta260 rfl rfl (fun b5_0 w1 H1 => ?_)
 refine Z01 (Z02 (Z03 (Z03 (Z00 (Zm ?_)))))
 refine Z0W rfl rfl rfl rfl (Z0l ZO) ?_
 refine Zg (Z01 (Z02 ?_))
 refine Zk [0, 1, 6, 7] ?_
 refine Z0d ?_
 refine Z0z (ι := Nat × Int × List UInt8) (fun (z0 : Nat × Int × List UInt8) => match z0 with | ⟨k, z, cs⟩ => n - k) (fun (z0 : Nat × Int × List UInt8) (w' : World) => match z0 with | ⟨k, z, cs⟩ => St w w.heap.size Z0J ([As.blk b5_0 260 (bys cs)]) w' ∧ k ≤ n ∧ cs.length = 20 ∧ z = x / 10 ^ k ∧ (∀ j, n - k ≤ j → j < n → cs.getD j 0 = (padW x n).getD j 0)) (fun (z0 : Nat × Int × List UInt8) => match z0 with | ⟨k, z, cs⟩ => [(0, .int .u64 z), (7, .int .i64 ((n : Int) - 1 - k))]) [1, 6] (0, x, List.replicate 20 0) ?_ (.cons rfl (.cons rfl .nil)) ?_ ?_
 ·exact ⟨H1, ZO, by simp, by simp, fun j h1 h2 => by omega⟩
 ·exact (.cons rfl ZN (.cons rfl ZN .nil))
 rintro ⟨k, z, cs⟩ w2 ⟨H2, hk, hcl, hz, hdone⟩
 show RunC P _ _ _ (_ :: _) _
 have hz0 : 0 ≤ z := by rw [hz]; exact Int.ediv_nonneg hx.1 (Int.le_of_lt (p10 k))
 have hz1 : z ≤ 18446744073709551615 := by rw [hz]; exact Int.le_trans (Int.ediv_le_self _ hx.1) hx.2
 refine Z03 (Z03 (Z00 (Zm ?_)))
 refine Zh ?_
 refine Z01 (Z02 ?_)
 refine Zk [0, 1, 6, 7, 23] ?_
 (first | refine Z0c rfl ?_ ?_ | refine Z08 rfl ?_ ?_) <;> intro hc2
 ·refine Z0a (Z02 ?_)
  refine Zk [0, 1, 6, 7] ?_
  refine Z03 (Z0d (Z03 (Z00 (Zm (Zm ?_)))))
  refine Z2e rfl rfl rfl rfl ZO (Z2E ZO) ?_
  refine Z0y rfl rfl rfl rfl (Z1p ZO) ?_
  refine Z5a rfl rfl underlying24 underlying5 rfl (w_u8 ZO) ?_
  refine l_indexA (j := n - 1 - k) rfl rfl underlying260 tz5 rfl rfl ZO ZO ?_
  refine Z0s H2 .head (setAt_of (by simp [bys]; omega) _) rfl tz5 rfl rfl rfl (fun w3 H3 => ?_)
  refine Z01 (Z02 ?_)
  refine Zk [0, 1, 6, 7] ?_
  refine Z00 (Zm ?_)
  refine Z2D rfl rfl rfl rfl ZO (Z78 ZO) ?_
  refine Zg (Z01 ?_)
  refine Z0F ?_
  refine Z02 ?_
  refine Zk [0, 1, 6, 7] ?_
  refine Z00 (Zm ?_)
  refine Z0W rfl rfl rfl rfl (Z0l ZO) ?_
  refine Zg (Z01 ?_)
  refine Z0p (i := (k, z, cs)) (k + 1, z / 10, cs.set (n - 1 - k) (dig (z % 10))) ?_ ?_ (.cons rfl (.cons rfl .nil)) ?_
  ·first | omega | (simp; omega)
  ·refine ⟨H3.cast ?_, ZO, by simp [hcl], by rw [hz, Int.ediv_ediv_of_nonneg (Int.le_of_lt (p10 k)), Int.pow_succ], fun j h1 h2 => ?_⟩
   ·rw [bys_set', Z6D ZO]
   by_cases he : j = n - 1 - k
   ·subst he
    rw [padW_at k n hx.1 hxn ZO, ← hz]
    rw [List.getD_eq_getElem?_getD, List.getElem?_set_self ZO]
    rfl
   rw [← hdone j ZO h2]
   simp only [List.getD_eq_getElem?_getD]
   rw [List.getElem?_set_ne ZO]
  exact (.cons rfl ZN (.cons rfl ZN .nil))
 refine Z0H ?_
 refine Z06 ?_
 refine Z06 ?_
 refine Z0h ?_
 refine Z02 ?_
 refine Zk [1, 6] ?_
 refine Z03 (Z00 (Zm ?_))
 refine l_sliceA (h := n) rfl rfl underlying260 tz5 rfl rfl rfl ZO ?_
 have hD := take_is (cs := cs) (D := padW x n) ZO (fun j hj => hdone j ZO ZO)
 rw [hpl] at hD
 have hsl : IV w2 (.slice (some ⟨b5_0, 0, none⟩) n 20) (bys (padW x n)) := by
  have h := IV.cut (c := 20) (l := 0) (k := n) (m := 20) (Z1M (H2.ok mem0)) ZO (by first | (simp [bys]; omega) | (simp [bys, hcl]; done) | (simp [bys, hcl]; omega)) ZO
  have e : ((bys cs).take n).drop 0 = bys (padW x n) := by rw [List.drop_zero, bys, ← List.map_take, hD]
  rw [e] at h
  simpa [cutA, Lib.add_plain] using h
 refine Z5K H2 rfl rfl underlying25 ti5 rfl rfl rfl (by first | exact H2.ibl mem0 | assumption) (by first | exact Z4K _ _ | exact Z5L _ | simp [Value.oneCell']) (by first | (simp; done) | (simp; omega)) (by first | (simp; done) | (simp; omega)) (fun v11_2 w4 H4 => ?_)
 refine Zg (Zg (Z01 (Z02 ?_)))
 refine Zk [4, 5] ?_
 refine Z0i ?_
 refine Z0P results113 rfl rfl ?_
 refine ⟨_, rfl, ?_⟩
 have H5 := St.del (.tail .head) H4
 exact ⟨_, rfl, H5.grows⟩
def szN (b : Int) : Prop := IntKind.wrap .i64 b < 0
instance (b : Int) : Decidable (szN b) := by unfold szN; infer_instance
def szV (b : Int) : Int := if szN b then IntKind.wrap .u64 (0 - b) else b
theorem szV_bd {b : Int} (hb : u64I b) : 0 ≤ szV b ∧ szV b ≤ 18446744073709551615 := by
 unfold szV
 split
 ·exact Z5E _
 exact hb
theorem sizeSc (b : Int) (hb : u64I b) (w : World) :
  Z0f P 110 [.int .u64 b] w fun r w' => r = .tuple #[.int .u64 (szV b), .bool (decide (szN b)), .bool (decide (szV b ≤ 999999999999999999))] ∧ w = w' := by
 refine Z0o func110 rfl ntmps110 rfl ?_
 refine Z03 (Z00 (Zg (Zg (Zg (Z01 (Z02 ?_))))))
 refine Zk [0] ?_
 refine Z03 (Z00 (Zm ?_))
 refine Z5a rfl rfl underlying24 underlying2 rfl (rfl) ?_
 refine Zl ?_
 refine Zg (Z01 (Z02 ?_))
 refine Zk [0, 3] ?_
 refine Z03 (Z03 (Z00 (Zm (Z01 (Z02 ?_)))))
 (first | refine Z0c rfl ?_ ?_ | refine Z08 rfl ?_ ?_) <;> intro hc0
 ·refine Z00 ?_
  have hv : szV b = IntKind.wrap .u64 (0 - b) := if_pos hc0
  refine Zm ?_
  refine Z5M rfl rfl rfl rfl ?_
  refine Zg (Z01 (Z02 ?_))
  refine Zk [0, 3] ?_
  refine Z03 (Z00 ?_)
  skip
  refine Zm (Zm (Zm ?_))
  refine Zf ?_
  refine Zg (Zg (Zg (Z01 (Z02 ?_))))
  refine Zk [2, 3, 4] ?_
  refine Z0i ?_
  refine Z12 results110 (.tmp rfl (.tmp rfl (.tmp rfl .nil))) rfl ?_
  refine ⟨_, rfl, ?_⟩
  exact ⟨by rw [hv]; rfl, rfl⟩
 refine Z0a (Z02 ?_)
 refine Zk [0, 3] ?_
 refine Z03 (Z00 ?_)
 skip
 refine Zm (Zm (Zm ?_))
 refine Zf ?_
 refine Zg (Zg (Zg (Z01 (Z02 ?_))))
 refine Zk [2, 3, 4] ?_
 refine Z0i ?_
 refine Z12 results110 (.tmp rfl (.tmp rfl (.tmp rfl .nil))) rfl ?_
 refine ⟨_, rfl, ?_⟩
 have hv : szV b = b := if_neg hc0
 exact ⟨by rw [hv]; rfl, rfl⟩
theorem cmpSc (b : Int) (hb : u64I b) (w : World) :
  Z0f P 49 [.int .u64 b, .int .u64 b] w fun r w' => ∃ x : Int, r = .tuple #[.int .i64 x, .int .i64 (if szV b ≤ 999999999999999999 then 0 else 123)] ∧ w = w' := by
 refine Z0o func49 rfl ntmps49 rfl ?_
 refine Z03 (Z00 (Zg (Zg (Z01 (Z02 ?_)))))
 refine Zk [0, 1] ?_
 refine Z03 (Z00 (Zm ?_))
 refine Zp func110 (sizeSc b hb w) ?_
 refine Zm ?_
 refine Zx (Zx (Zx (Zg (Zg (Zg (Z01 (Z02 ?_)))))))
 refine Zk [0, 1, 8] ?_
 refine Z03 (Z00 (Zm ?_))
 refine Zp func110 (sizeSc b hb w) ?_
 refine Zm ?_
 refine Zx (Zx (Zx (Zg (Zg (Zg (Z01 (Z02 ?_)))))))
 refine Zk [0, 1, 8, 11] ?_
 refine Z03 (Z0d (Z03 (Z00 (Zm ?_))))
 first | refine Z38 rfl rfl rfl ?_ | refine Z3v rfl rfl rfl ?_
 refine Zm ?_
 apply l_or 2 [0, 1] rfl rfl (.cons rfl (.cons rfl (.cons rfl .nil))) rfl rfl (fun _ => rfl) rfl rfl rfl
 ·intro hg3_3
  refine Zm ?_
  first | refine Z38 rfl rfl rfl ?_ | refine Z3v rfl rfl rfl ?_
  refine Z01 ?_
  exact Z0O rfl (.cons rfl (ZF hg3_3) (.cons rfl rfl (.cons rfl rfl .nil)))
 refine Zg (Z01 (Z02 ?_))
 refine Zk [0, 1, 24] ?_
 (first | refine Z0c rfl ?_ ?_ | refine Z08 rfl ?_ ?_) <;> intro hc0
 ·refine Z03 (Z00 (Zg (Zg (Z01 (Z02 ?_)))))
  refine Zk [4, 5] ?_
  refine Z0i ?_
  refine Z0k ?_
  refine Z07 ?_
  refine Z0P results49 rfl rfl ?_
  refine ⟨_, rfl, ?_⟩
  exact ⟨_, by first | rw [if_pos ZO] | rw [if_neg ZO], rfl⟩
 refine Z03 (Z00 (Zm ?_))
 refine Z5a rfl rfl underlying24 underlying2 rfl (rfl) ?_
 refine Zm ?_
 refine Z5a rfl rfl underlying24 underlying2 rfl (rfl) ?_
 refine Zl ?_
 refine Zg (Z01 (Z02 ?_))
 refine Zk [0, 1, 31] ?_
 (first | refine Z0c rfl ?_ ?_ | refine Z08 rfl ?_ ?_) <;> intro hc1
 ·refine Z03 (Z00 (Zg (Zg (Z01 (Z02 ?_)))))
  refine Zk [4, 5] ?_
  refine Z0i ?_
  refine Z0k ?_
  refine Z07 ?_
  refine Z0P results49 rfl rfl ?_
  refine ⟨_, rfl, ?_⟩
  exact ⟨_, by first | rw [if_pos ZO] | rw [if_neg ZO], rfl⟩
 refine Z03 (Z00 (Zm (Zm ?_)))
 refine Ze ?_
 refine Zg (Z01 (Z02 ?_))
 refine Zk [37] ?_
 (first | refine Z0c rfl ?_ ?_ | refine Z08 rfl ?_ ?_) <;> intro hc2
 ·refine Z03 (Z00 (Zg (Zg (Z01 (Z02 ?_)))))
  refine Zk [4, 5] ?_
  refine Z0i ?_
  refine Z0k ?_
  refine Z07 ?_
  refine Z0P results49 rfl rfl ?_
  refine ⟨_, rfl, ?_⟩
  exact ⟨_, by first | rw [if_pos ZO] | rw [if_neg ZO], rfl⟩
 refine Z0a ?_
 refine Z0F ?_
 refine Z02 ?_
 refine Zk [] ?_
 refine Z03 (Z00 (Zg (Zg (Z01 (Z02 ?_)))))
 refine Z0i ?_
 refine Z0P results49 rfl rfl ?_
 refine ⟨_, rfl, ?_⟩
 exact ⟨_, by first | rw [if_pos ZO] | rw [if_neg ZO], rfl⟩
def scN (b : Int) (s : Nat) : Nat := max (dtx (szV b)).length (s + 1)
def scD (b : Int) (s : Nat) : List UInt8 := padW (szV b) (scN b s)
def scT (b : Int) (s : Nat) : List UInt8 := ((if szN b then [45] else []) ++ (scD b s).take (scN b s - s)) ++ (if 0 < s then 46 :: (scD b s).drop (scN b s - s) else [])
theorem dtx_18 {x : Int} (h0 : 0 ≤ x) (h : x ≤ 999999999999999999) : (dtx x).length ≤ 18 := by
 rcases Int.lt_or_eq_of_le h0 with h1 | h1
 ·rw [dl_dtx h1]
  exact dl_le h0 (by rw [show (10 : Int) ^ 18 = 1000000000000000000 from by decide]; omega)
 rw [← h1]; decide
theorem printSc (s : Nat) (hs : s ≤ 18) (b : Int) (hb : u64I b) (hok : szV b ≤ 999999999999999999) (w : World) :
  Z0f P 85 [.int .i64 (s : Int), .int .u64 b] w fun r w' => ∃ v, r = .tuple #[v, .int .i64 0] ∧ Grow w w' [As.rb 5 v (scT b s)] := by
 refine Z0o func85 rfl ntmps85 rfl ?_
 have H0 := St.start w
 have hbd := szV_bd hb
 have hl18 := dtx_18 hbd.1 hok
 have hn0 : scN b s = max (dtx (szV b)).length (s + 1) := rfl
 have hn20 : scN b s ≤ 20 := by omega
 have hdl : (scD b s).length = scN b s := padW_len ZO
 refine Z03 (Z00 (Zg (Zg (Z01 (Z02 ?_)))))
 refine Zk [0, 1] ?_
 refine Z03 (Z00 (Zm ?_))
 refine Zp func110 (sizeSc b hb w) ?_
 refine Zm ?_
 refine Zx (Zx (Zx (Zg (Zg (Zg (Z01 (Z02 ?_)))))))
 refine Zk [0, 6, 7, 8] ?_
 refine Z03 (Z0d (Z03 (Z00 (Zm ?_))))
 refine Zp func158 (maySc (s : Int) w) ?_
 first | refine Z38 rfl rfl rfl ?_ | refine Z3v rfl rfl rfl ?_
 refine Zg (Z01 (Z02 ?_))
 refine Zk [0, 6, 7, 8, 18] ?_
 (first | refine Z0c rfl ?_ ?_ | refine Z08 rfl ?_ ?_) <;> intro hc0
 ·exact absurd hc0 ZO
 refine Z03 (Z00 (Zm ?_))
 first | refine Z38 rfl rfl rfl ?_ | refine Z3v rfl rfl rfl ?_
 refine Zg (Z01 (Z02 ?_))
 refine Zk [0, 6, 7, 22] ?_
 (first | refine Z0c rfl ?_ ?_ | refine Z08 rfl ?_ ?_) <;> intro hc1
 ·exact absurd hc1 ZO
 refine Z0a ?_
 refine Z0F ?_
 refine Z02 ?_
 refine Zk [0, 6, 7] ?_
 refine Z03 (Z00 (Zm (Zm ?_)))
 refine Zp func160 (countD (szV b) hbd w) ?_
 refine Zm ?_
 refine Z0y rfl rfl rfl rfl (Z0l ZO) ?_
 refine Z5T rfl rfl rfl rfl ?_
 refine Z0j (s := 31) (v' := .int .i64 (scN b s : Int)) rfl (congrArg (Value.int .i64) ZO) ?_
 refine Zc func113 (padG (szV b) hbd (scN b s) ZO hn20 w) ?_
 rintro _ w1 ⟨vd, rfl, hG⟩
 have H1 := hG _ _ _ _ H0
 simp only [Zca, Zna] at H1
 refine Zm ?_
 refine Zx (Zx (Zg (Zg (Z01 (Z02 ?_)))))
 refine Zk [0, 7, 9] ?_
 refine Z03 (Z00 (Zg (Z01 (Z02 ?_))))
 refine Z1q (ι := Value × L8) (fun (z0 : Value × L8) (w' : World) => match z0 with | ⟨vo, o⟩ => St w w.heap.size Z0J ([As.rb 5 vo o, As.rb 5 vd (scD b s)]) w' ∧ o = (if szN b then [45] else []) ∧ o.length ≤ 1) (fun (z0 : Value × L8) => match z0 with | ⟨vo, o⟩ => [(11, vo)]) [0, 9] (.cons rfl (.cons rfl .nil)) ?_ ?_
 ·refine Z03 (Z00 (Zm (Z01 (Z02 ?_))))
  refine Zk [0, 9, 11, 35] ?_
  (first | refine Z0c rfl ?_ ?_ | refine Z08 rfl ?_ ?_) <;> intro hc2
  ·refine Z00 (Zm ?_)
   have H2 := H1.nil 5
   refine Z2g H2 rfl rfl underlying25 ti5 rfl (.cons rfl ZR .nil) rfl rfl rfl (fun b9_1 w3 H3 => ?_)
   refine Z46 H3 rfl rfl underlying25 ti5 rfl rfl rfl rfl (by first | (simp [Value.oneCell']; done) | (intro u hu; rw [List.mem_singleton.1 hu]; assumption)) (by first | (simp; done) | (simp; omega)) (by first | (simp; done) | (simp; omega)) (fun v9_2 w4 H4 => ?_)
   refine Zg (Z01 ?_)
   have H5 := St.frontL (l := [_]) H4
   simp only [Zca, Zna] at H5
   have H6 := St.frontL (l := [_]) H5
   simp only [Zca, Zna] at H6
   refine Z0w (v9_2, [45]) ?_ (.cons rfl (.cons rfl .nil)) ?_
   ·exact ⟨H6, by rw [if_pos hc2], by simp⟩
   exact (.cons rfl ZN .nil)
  refine Z0a ?_
  refine Z0w (.slice none 0 0, []) ?_ (.cons rfl (.cons rfl .nil)) ?_
  ·exact ⟨H1.nil 5, by rw [if_neg hc2], by simp⟩
  exact (.cons rfl ZN .nil)
 rintro ⟨vo, o⟩ w7 ⟨H7, ho, ho1⟩
 show RunC P _ _ _ (_ :: _) _
 refine Z03 (Z00 (Zm (Zm (Zm ?_))))
 refine Z4W rfl rfl underlying25 rfl (by first | exact H7.io mem0 | exact H7.io mem1 | assumption) ?_
 refine Zm ?_
 refine Z0W rfl rfl rfl rfl (Z0l ZO) ?_
 refine Z5B (l := 0) (h := scN b s - s) rfl rfl underlying25 tz5 rfl rfl rfl rfl (by first | exact H7.io mem0 | exact H7.io mem1 | assumption) ZD ZD (.inl rfl) (by simp) ZO ZI (fun v10_6 h10_6 ho10_6 => ?_)
 have hct : IB w7 v10_6 ((scD b s).take (scN b s - s)) := by
  have e : ((bys (scD b s)).take (scN b s - s)).drop 0 = bys ((scD b s).take (scN b s - s)) := by simp [bys, List.map_take]
  rw [e] at h10_6
  exact h10_6
 refine Z45 H7 rfl rfl underlying25 ti5 rfl rfl rfl (by first | exact H7.io mem0 | exact H7.io mem1 | assumption) (by first | exact Z4K _ _ | exact Z5L _ | simp [Value.oneCell']) (by first | (simp; done) | (simp; omega)) (by first | (simp; done) | (simp; omega)) (fun v10_7 w8 H8 => ?_)
 refine Zg (Z01 (Z02 ?_))
 refine Zk [0, 9, 11] ?_
 refine Z03 (Z03 (Z00 (Zm ?_)))
 refine Zw ?_
 refine Z01 (Z02 ?_)
 refine Zk [0, 9, 11, 48] ?_
 (first | refine Z0c rfl ?_ ?_ | refine Z08 rfl ?_ ?_) <;> intro hc3
 ·refine Z03 (Z00 (Zm ?_))
  refine Z2g H8 rfl rfl underlying25 ti5 rfl (.cons rfl ZR .nil) rfl rfl rfl (fun b12_1 w9 H9 => ?_)
  refine Z46 H9 rfl rfl underlying25 ti5 rfl rfl rfl rfl (by first | (simp [Value.oneCell']; done) | (intro u hu; rw [List.mem_singleton.1 hu]; assumption)) (by first | (simp; done) | (simp; omega)) (by first | (simp; done) | (simp; omega)) (fun v12_2 w10 H10 => ?_)
  refine Zg (Z01 (Z02 ?_))
  refine Zk [0, 9, 11] ?_
  refine Z00 (Zm (Zm (Zm ?_)))
  refine Z4W rfl rfl underlying25 rfl (by first | exact H10.io mem0 | exact H10.io mem1 | assumption) ?_
  refine Zm ?_
  refine Z0W rfl rfl rfl rfl (Z0l ZO) ?_
  refine Z5B (l := scN b s - s) (h := scN b s) rfl rfl underlying25 tz5 rfl rfl rfl rfl (by first | exact H10.io mem0 | exact H10.io mem1 | assumption) ZD ZD (.inl rfl) (by simp) ZO ZI (fun v13_6 h13_6 ho13_6 => ?_)
  have hct : IB w10 v13_6 ((scD b s).drop (scN b s - s)) := by
   have e : ((bys (scD b s)).take (scN b s)).drop (scN b s - s) = bys ((scD b s).drop (scN b s - s)) := by rw [List.take_of_length_le (by simp [bys]; omega)]; simp [bys, List.map_drop]
   rw [e] at h13_6
   exact h13_6
  refine Z45 H10 rfl rfl underlying25 ti5 rfl rfl rfl (by first | exact H10.io mem0 | exact H10.io mem1 | assumption) (by first | exact Z4K _ _ | exact Z5L _ | simp [Value.oneCell']) (by first | (simp; done) | (simp; omega)) (by first | (simp; done) | (simp; omega)) (fun v13_7 w11 H11 => ?_)
  refine Zg (Z01 (Z02 ?_))
  refine Zk [11] ?_
  refine Z03 (Z00 (Zm (Zg (Zg (Z01 (Z02 ?_))))))
  refine Zk [4, 5] ?_
  refine Z0i ?_
  refine Z0P results85 rfl rfl ?_
  refine ⟨_, rfl, ?_⟩
  have H14 := St.del (.tail .head) (St.front1 (St.front1 H11))
  exact ⟨_, rfl, (H14.cast (show _ = [As.rb 5 v13_7 (scT b s)] from by unfold scT; rw [← ho, if_pos (show 0 < s by omega)]; exact congrArg (fun z => [As.ro 5 v13_7 z]) (by simp [bys, List.append_assoc]))).grows⟩
 refine Z0a (Z02 ?_)
 refine Zk [11] ?_
 refine Z03 (Z00 (Zm (Zg (Zg (Z01 (Z02 ?_))))))
 refine Zk [4, 5] ?_
 refine Z0i ?_
 refine Z0P results85 rfl rfl ?_
 refine ⟨_, rfl, ?_⟩
 have H17 := St.del (.tail .head) (St.front1 (St.front1 H8))
 exact ⟨_, rfl, (H17.cast (show _ = [As.rb 5 v10_7 (scT b s)] from by unfold scT; rw [← ho, if_neg (show ¬ 0 < s by omega)]; exact congrArg (fun z => [As.ro 5 v10_7 z]) (by simp [bys, List.append_assoc]))).grows⟩
theorem Z5D {Q : Z26} {P : Program} {N : Nat} {ops : Array Oper} {ρ : Env} {w : World} {rest : List Oper} {d : Nat} {ty : TypeId} {pos : String} {af : Array Edge} {g : Option (Nat × Bool)} {x ix : Operand} {k : IntKind} {i : Int} {j o m b z : Nat} {T e : TypeId} (hg : Z0t ops ρ g = true) (hN : Nat.blt d N = true) (hT : P.underlying T = some (.array m e)) (hsz : (P.info? e).map (·.size) = some z)
  (hx : Z0g ρ x = some (.pointer (some ⟨b, 0, none⟩))) (hi : Z0g ρ ix = some (.int k i)) (hij : i = (j : Int)) (hb : j < m) (ho : o = j * z)
  (nx : RunL P N ops Q rest ((d, .pointer (some ⟨b, o, none⟩)) :: ρ) w) : RunL P N ops Q (⟨some d, .indexAddr T x ix, ty, pos, af, g⟩ :: rest) ρ w := by
 subst hij ho
 exact Z1n hg rfl hN (fun a ha => by
  cases hq : P.info? e with
  | none => simp [hq] at hsz
  | some inf =>
   have h1 : inf.size = z := by simpa [hq] using hsz
   have h2 : (⟨b, 0, none⟩ : Addr).add (j * z) = ⟨b, j * z, none⟩ := by rw [Lib.add_plain, Nat.zero_add]
   simp [execOp, ha.eval hx, ha.eval hi, Instr.indexAt, Instr.sureAddr, asIntOf, run_underlying hT, hb, sizeOf, typeInfo, hq, h1, h2]) nx
theorem Z3u.here {l vs : List Value} (h : vs.length ≤ l.length) : Z3u l 0 vs (vs ++ l.drop vs.length) := by
 induction vs generalizing l with
 | nil => exact .nil
 | cons v vs ih =>
  cases l with
  | nil => simp at h
  | cons x l => exact .zero (ih (by simpa using h))
theorem Z3u.at {l vs : List Value} (o : Nat) (h : o + vs.length ≤ l.length) : Z3u l o vs (l.take o ++ vs ++ l.drop (o + vs.length)) := by
 induction o generalizing l with
 | zero => simpa using Z3u.here (l := l) (vs := vs) ZO
 | succ o ih =>
  cases l with
  | nil => simp at h
  | cons x l =>
   have := Z3u.succ (x := x) (ih (l := l) (by simp at h; omega))
   rw [show o + 1 + vs.length = (o + vs.length) + 1 by omega]
   exact this
def kL : Nat → List Value
 | 0 => List.replicate 34 .nilFunc
 | i + 1 => (kL i).take (2 * (i + 1)) ++ [.func (.func 71) #[] #[], .func (.func 73) #[] #[]] ++ (kL i).drop (2 * (i + 1) + 2)
theorem kL_len : ∀ i, i ≤ 8 → (kL i).length = 34
 | 0, _ => by simp [kL]
 | i + 1, h => by
  have := kL_len i ZO
  simp only [kL, List.length_append, List.length_take, List.length_drop, List.length_cons, List.length_nil]
  omega
abbrev dayV (p13 : Nat) : Value := .func (.func 161) #[] #[.pointer (some ⟨p13, 0, none⟩)]
def rdV (p13 p14 : Nat) (k : Int) : Value := if k ≤ 8 then .func (.func 71) #[] #[] else if k ≤ 10 then .func (.func 75) #[] #[] else if k = 11 then .func (.func 79) #[] #[] else if k = 12 then .func (.func 82) #[] #[] else if k = 13 then dayV p13 else dayV p14
def wrV (k : Int) : Value := if k ≤ 8 then .func (.func 73) #[] #[] else if k ≤ 10 then .func (.func 77) #[] #[] else if k = 11 then .func (.func 80) #[] #[] else if k = 12 then .func (.func 84) #[] #[] else if k = 13 then .func (.func 88) #[] #[] else .func (.func 90) #[] #[]
def kdC (p13 p14 : Nat) : List Value := [.nilFunc, .nilFunc, .func (.func 71) #[] #[], .func (.func 73) #[] #[], .func (.func 71) #[] #[], .func (.func 73) #[] #[], .func (.func 71) #[] #[], .func (.func 73) #[] #[], .func (.func 71) #[] #[], .func (.func 73) #[] #[], .func (.func 71) #[] #[], .func (.func 73) #[] #[], .func (.func 71) #[] #[], .func (.func 73) #[] #[], .func (.func 71) #[] #[], .func (.func 73) #[] #[], .func (.func 71) #[] #[], .func (.func 73) #[] #[], .func (.func 75) #[] #[], .func (.func 77) #[] #[], .func (.func 75) #[] #[], .func (.func 77) #[] #[], .func (.func 79) #[] #[], .func (.func 80) #[] #[], .func (.func 82) #[] #[], .func (.func 84) #[] #[], dayV p13, .func (.func 88) #[] #[], dayV p14, .func (.func 90) #[] #[], .nilFunc, .nilFunc, .nilFunc, .nilFunc]
theorem kd_at {p13 p14 : Nat} {k : Int} (hk : 1 ≤ k ∧ k ≤ 14) : ((kdC p13 p14).drop (k.toNat * 2)).take 2 = [rdV p13 p14 k, wrV k] := by
 rcases (show k = 1 ∨ k = 2 ∨ k = 3 ∨ k = 4 ∨ k = 5 ∨ k = 6 ∨ k = 7 ∨ k = 8 ∨ k = 9 ∨ k = 10 ∨ k = 11 ∨ k = 12 ∨ k = 13 ∨ k = 14 by omega) with rfl | rfl | rfl | rfl | rfl | rfl | rfl | rfl | rfl | rfl | rfl | rfl | rfl | rfl <;> rfl
theorem placedC (f : Nat) (w : World) :
  Z0f P 86 [.func (.func f) #[] #[]] w fun r w' => ∃ p, r = dayV p ∧ Grow w w' [As.blk p 141 [.func (.func f) #[] #[]]] := by
 refine Z0o func86 rfl ntmps86 rfl ?_
 have H0 := St.start w
 refine Z03 (Z00 ?_)
 refine l_box1 H0 rfl rfl rfl ZR (fun b0_0 w1 H1 => ?_)
 refine Zg (Z01 (Z02 ?_))
 refine Zk [1] ?_
 refine Z03 (Z00 ?_)
 refine Z1I rfl rfl (.cons rfl .nil) ?_
 refine Zg (Z01 (Z02 ?_))
 refine Zk [2] ?_
 refine Z0i ?_
 refine Z0e results86 rfl ?_
 refine ⟨_, rfl, ?_⟩
 exact ⟨_, rfl, H1.grows⟩
theorem kindsC  (w : World) :
  Z0f P 35 [] w fun r w' => ∃ p13 p14, r = .agg (kdC p13 p14).toArray ∧ Grow w w' [As.blk p14 141 [.func (.func 89) #[] #[]], As.blk p13 141 [.func (.func 87) #[] #[]]] := by
 refine Z0o func35 rfl ntmps35 rfl ?_
 have H0 := St.start w
 refine Z03 (Z00 ?_)
 refine Z0X H0 ta78 rfl rfl (fun b0_0 w1 H1 => ?_)
 refine Z01 (Z02 (Z03 (Z00 ?_)))
 refine Z16 rfl rfl pl77 ta77 (.one rfl rfl ZR .zero (.one rfl rfl ZR (.succ .zero) .nil)) ?_
 refine Z0X H1 ta77 rfl rfl (fun b1_1 w2 H2 => ?_)
 refine Z0m H2 .head (.zero (.zero .nil)) rfl tz77 rfl rfl ZC (fun w3 H3 => ?_)
 refine Z01 (Z02 ?_)
 refine Zk [0, 1] ?_
 refine Z03 (Z00 ?_)
 refine Z16 rfl rfl pl77 ta77 (.one rfl rfl ZR .zero (.one rfl rfl ZR (.succ .zero) .nil)) ?_
 refine Z0X H3 ta77 rfl rfl (fun b2_1 w4 H4 => ?_)
 refine Z0m H4 .head (.zero (.zero .nil)) rfl tz77 rfl rfl ZC (fun w5 H5 => ?_)
 refine Z01 (Z02 ?_)
 refine Zk [0, 1, 2] ?_
 refine Z03 (Z00 ?_)
 refine Z0X H5 ta78 rfl rfl (fun b3_0 w6 H6 => ?_)
 refine Z01 (Z02 ?_)
 refine Z1q (ι := Unit) (fun (u8 : Unit) (w' : World) => St w w.heap.size Z0J ([As.blk b3_0 78 [.nilFunc, .nilFunc, .func (.func 71) #[] #[], .func (.func 73) #[] #[], .func (.func 71) #[] #[], .func (.func 73) #[] #[], .func (.func 71) #[] #[], .func (.func 73) #[] #[], .func (.func 71) #[] #[], .func (.func 73) #[] #[], .func (.func 71) #[] #[], .func (.func 73) #[] #[], .func (.func 71) #[] #[], .func (.func 73) #[] #[], .func (.func 71) #[] #[], .func (.func 73) #[] #[], .func (.func 71) #[] #[], .func (.func 73) #[] #[], .nilFunc, .nilFunc, .nilFunc, .nilFunc, .nilFunc, .nilFunc, .nilFunc, .nilFunc, .nilFunc, .nilFunc, .nilFunc, .nilFunc, .nilFunc, .nilFunc, .nilFunc, .nilFunc], As.blk b2_1 77 [.func (.func 75) #[] #[], .func (.func 77) #[] #[]], As.blk b0_0 78 (List.replicate 34 .nilFunc)]) w' ∧ True) (fun (u8 : Unit) => []) [0, 2, 3] (.cons rfl (.cons rfl (.cons rfl .nil))) ?_ ?_
 ·refine Z03 (Z00 (Zg (Z01 (Z02 (Z0d ?_)))))
  refine Z0z (ι := Nat) (fun (i : Nat) => 8 - i) (fun (i : Nat) (w' : World) => St w w.heap.size Z0J ([As.blk b3_0 78 (kL i), As.blk b2_1 77 [.func (.func 75) #[] #[], .func (.func 77) #[] #[]], As.blk b1_1 77 [.func (.func 71) #[] #[], .func (.func 73) #[] #[]], As.blk b0_0 78 (List.replicate 34 .nilFunc)]) w' ∧ i ≤ 8) (fun (i : Nat) => [(4, .int .i64 ((i : Int) + 1))]) [0, 1, 2, 3] (0) ?_ (.cons rfl (.cons rfl (.cons rfl (.cons rfl .nil)))) ?_ ?_
  ·exact ⟨H6, ZO⟩
  ·exact (.cons rfl ZN .nil)
  rintro i w7 ⟨H7, hi⟩
  show RunC P _ _ _ (_ :: _) _
  have hkl := kL_len i ZO
  refine Z03 (Z03 (Z00 (Zm ?_)))
  refine Zf ?_
  refine Z01 (Z02 ?_)
  refine Zk [0, 1, 2, 3, 4, 8] ?_
  (first | refine Z0c rfl ?_ ?_ | refine Z08 rfl ?_ ?_) <;> intro hc0
  ·refine Z0a (Z02 ?_)
   refine Zk [0, 1, 2, 3, 4] ?_
   refine Z03 (Z0d (Z00 (Zm ?_)))
   refine Z1b H7 mem2 rfl rfl underlying77 rfl tz77 rfl (.take (.take .nil)) ?_
   refine Z5D (j := i + 1) (o := 2 * (i + 1)) rfl rfl underlying78 tz77 rfl rfl ZO ZO ZO ?_
   refine Z0m (vs := [.func (.func 71) #[] #[], .func (.func 73) #[] #[]]) H7 .head (Z3u.at (2 * (i + 1)) (by simp; omega)) rfl tz77 rfl rfl (by simp [Value.oneCell']) (fun w8 H8 => ?_)
   refine Z01 ?_
   refine Z0F ?_
   refine Z02 ?_
   refine Zk [0, 1, 2, 3, 4] ?_
   refine Z00 (Zm ?_)
   refine Z0y rfl rfl rfl rfl (Z0l ZO) ?_
   refine Zg (Z01 ?_)
   refine Z0p (i := (i)) (i + 1) ?_ ?_ (.cons rfl (.cons rfl (.cons rfl (.cons rfl .nil)))) ?_
   ·first | omega | (simp; omega)
   ·exact ⟨H8.cast rfl, ZO⟩
   exact (.cons rfl ZN .nil)
  refine Z0H ?_
  refine Z06 ?_
  refine Z06 ?_
  refine Z0h ?_
  have H9 := St.frontL (l := [_, _, _]) H7
  simp only [Zca, Zna] at H9
  have H10 := St.frontL (l := [_, _]) H9
  simp only [Zca, Zna] at H10
  have H11 := St.frontL (l := [_, _]) H10
  simp only [Zca, Zna] at H11
  have H12 := St.del (.tail (.tail (.tail .head))) H11
  refine Z0w (()) ?_ (.cons rfl (.cons rfl (.cons rfl .nil))) ?_
  ·have hi8 : i = 8 := by omega
   subst hi8
   exact ⟨H12.cast rfl, trivial⟩
  exact .nil
 rintro u8 w13 ⟨H13, _⟩
 refine Z03 ?_
 have H14 := H13.drewn
 refine Z1a (n := 6) [Zz,Zz,Zz,Zz,Zz,Zz] (fun wS => (As.blk b2_1 77 [.func (.func 75) #[] #[], .func (.func 77) #[] #[]]).ok wS) ZK rfl rfl ?_
 apply Zu (L' := [Zy,Zz,Zz,Zz,Zz,Zz]) 0 (H14.ok mem1)
 ·intro wS sS
  refine Z1b (Z0r sS) mem0 rfl rfl underlying77 rfl tz77 rfl (.take (.take .nil)) ?_
  refine Z01 ?_
  exact Z04 rfl
 apply Zu (L' := [Zy,Zy,Zz,Zz,Zz,Zz]) 1 (H14.ok mem1)
 ·intro wS sS
  refine Z1b (Z0r sS) mem0 rfl rfl underlying77 rfl tz77 rfl (.take (.take .nil)) ?_
  refine Z01 ?_
  exact Z04 rfl
 apply Zu (L' := [Zy,Zy,Zy,Zz,Zz,Zz]) 2 (H14.ok mem1)
 ·intro wS sS
  refine Z5D (j := 9) (o := 18) rfl rfl underlying78 tz77 rfl rfl rfl (by decide) rfl ?_
  refine Z01 ?_
  exact Z04 rfl
 refine Z0v (L' := [Zy,Zy,Zy,Zy,Zz,Zz]) 3 ZK rfl rfl ?_
 refine Z0m H14 .head (.succ (.succ (.succ (.succ (.succ (.succ (.succ (.succ (.succ (.succ (.succ (.succ (.succ (.succ (.succ (.succ (.succ (.succ (.zero (.zero .nil)))))))))))))))))))) rfl tz77 rfl rfl ZC (fun w15 H15 => ?_)
 refine Z01 ?_
 refine Z0n (H15.ok mem1) ?_
 apply Zu (L' := [Zy,Zy,Zy,Zy,Zy,Zz]) 4 (H15.ok mem1)
 ·intro wS sS
  refine Z5D (j := 10) (o := 20) rfl rfl underlying78 tz77 rfl rfl rfl (by decide) rfl ?_
  refine Z01 ?_
  exact Z04 rfl
 refine Z0v (L' := [Zy,Zy,Zy,Zy,Zy,Zy]) 5 ZK rfl rfl ?_
 refine Z0m H15 .head (.succ (.succ (.succ (.succ (.succ (.succ (.succ (.succ (.succ (.succ (.succ (.succ (.succ (.succ (.succ (.succ (.succ (.succ (.succ (.succ (.zero (.zero .nil)))))))))))))))))))))) rfl tz77 rfl rfl ZC (fun w16 H16 => ?_)
 refine Z01 ?_
 refine Z0n (H16.ok mem1) ?_
 refine Z0B ZK ?_
 refine Z02 ?_
 refine Zk [0, 3] ?_
 refine Z03 (Z00 ?_)
 refine Z16 rfl rfl pl77 ta77 (.one rfl rfl ZR .zero (.one rfl rfl ZR (.succ .zero) .nil)) ?_
 refine Z5D (j := 11) (o := 22) rfl rfl underlying78 tz77 rfl rfl rfl (by decide) rfl ?_
 refine Z0m H16 .head (.succ (.succ (.succ (.succ (.succ (.succ (.succ (.succ (.succ (.succ (.succ (.succ (.succ (.succ (.succ (.succ (.succ (.succ (.succ (.succ (.succ (.succ (.zero (.zero .nil)))))))))))))))))))))))) rfl tz77 rfl rfl ZC (fun w17 H17 => ?_)
 refine Z01 (Z02 ?_)
 refine Zk [0, 3] ?_
 refine Z03 (Z00 ?_)
 refine Z16 rfl rfl pl77 ta77 (.one rfl rfl ZR .zero (.one rfl rfl ZR (.succ .zero) .nil)) ?_
 refine Z5D (j := 12) (o := 24) rfl rfl underlying78 tz77 rfl rfl rfl (by decide) rfl ?_
 refine Z0m H17 .head (.succ (.succ (.succ (.succ (.succ (.succ (.succ (.succ (.succ (.succ (.succ (.succ (.succ (.succ (.succ (.succ (.succ (.succ (.succ (.succ (.succ (.succ (.succ (.succ (.zero (.zero .nil)))))))))))))))))))))))))) rfl tz77 rfl rfl ZC (fun w18 H18 => ?_)
 refine Z01 (Z02 ?_)
 refine Zk [0, 3] ?_
 refine Z03 (Z00 ?_)
 refine Zc func86 (placedC 87 w18) ?_
 rintro _ w19 ⟨p13, rfl, hG⟩
 have H19 := hG _ _ _ _ H18
 simp only [Zca, Zna] at H19
 refine Z16 rfl rfl pl77 ta77 (.one rfl rfl ZR .zero (.one rfl rfl ZR (.succ .zero) .nil)) ?_
 refine Z5D (j := 13) (o := 26) rfl rfl underlying78 tz77 rfl rfl rfl (by decide) rfl ?_
 have H20 := St.frontL (l := [_]) H19
 simp only [Zca, Zna] at H20
 refine Z0m H20 .head (.succ (.succ (.succ (.succ (.succ (.succ (.succ (.succ (.succ (.succ (.succ (.succ (.succ (.succ (.succ (.succ (.succ (.succ (.succ (.succ (.succ (.succ (.succ (.succ (.succ (.succ (.zero (.zero .nil)))))))))))))))))))))))))))) rfl tz77 rfl rfl ZC (fun w21 H21 => ?_)
 refine Z01 (Z02 ?_)
 refine Zk [0, 3] ?_
 refine Z03 (Z00 ?_)
 refine Zc func86 (placedC 89 w21) ?_
 rintro _ w22 ⟨p14, rfl, hG⟩
 have H22 := hG _ _ _ _ H21
 simp only [Zca, Zna] at H22
 refine Z16 rfl rfl pl77 ta77 (.one rfl rfl ZR .zero (.one rfl rfl ZR (.succ .zero) .nil)) ?_
 refine Z5D (j := 14) (o := 28) rfl rfl underlying78 tz77 rfl rfl rfl (by decide) rfl ?_
 have H23 := St.frontL (l := [_, _]) H22
 simp only [Zca, Zna] at H23
 have H24 := St.frontL (l := [_]) H23
 simp only [Zca, Zna] at H24
 have H25 := St.frontL (l := [_, _]) H24
 simp only [Zca, Zna] at H25
 refine Z0m H25 .head (.succ (.succ (.succ (.succ (.succ (.succ (.succ (.succ (.succ (.succ (.succ (.succ (.succ (.succ (.succ (.succ (.succ (.succ (.succ (.succ (.succ (.succ (.succ (.succ (.succ (.succ (.succ (.succ (.zero (.zero .nil)))))))))))))))))))))))))))))) rfl tz77 rfl rfl ZC (fun w26 H26 => ?_)
 refine Z01 (Z02 ?_)
 refine Zk [0, 3] ?_
 refine Z03 (Z00 ?_)
 refine Z1b H26 mem0 rfl rfl underlying78 rfl tz78 rfl (.take (.take (.take (.take (.take (.take (.take (.take (.take (.take (.take (.take (.take (.take (.take (.take (.take (.take (.take (.take (.take (.take (.take (.take (.take (.take (.take (.take (.take (.take (.take (.take (.take (.take .nil)))))))))))))))))))))))))))))))))) ?_
 refine Z0m H26 (.tail (.tail (.tail (.tail .head)))) (.zero (.zero (.zero (.zero (.zero (.zero (.zero (.zero (.zero (.zero (.zero (.zero (.zero (.zero (.zero (.zero (.zero (.zero (.zero (.zero (.zero (.zero (.zero (.zero (.zero (.zero (.zero (.zero (.zero (.zero (.zero (.zero (.zero (.zero .nil)))))))))))))))))))))))))))))))))) rfl tz78 rfl rfl ZC (fun w27 H27 => ?_)
 refine Z01 (Z02 ?_)
 refine Zk [0] ?_
 refine Z0i ?_
 refine Z2n results35 (.cell rfl (Z0E H27 mem4 underlying78 rfl tz78 (.take (.take (.take (.take (.take (.take (.take (.take (.take (.take (.take (.take (.take (.take (.take (.take (.take (.take (.take (.take (.take (.take (.take (.take (.take (.take (.take (.take (.take (.take (.take (.take (.take (.take .nil))))))))))))))))))))))))))))))))))) .nil) ?_
 refine ⟨_, rfl, ?_⟩
 have H32 := St.del (.tail (.tail .head)) (St.del (.tail (.tail (.tail .head))) (St.del (.tail (.tail (.tail (.tail .head)))) (St.front2 (St.front2 H27))))
 exact ⟨_, _, rfl, H32.grows⟩
section
variable {P : Program} {N : Nat} {ops : Array Oper} {ρ : Env} {w w0 : World} {rest : List Oper} {d : Nat} {ty : TypeId} {pos : String} {af : Array Edge} {g : Option (Nat × Bool)} {σ : List As}
theorem St_okA {g : Nat} {E : TypeId} {cs : List Value} (hw : St w0 w0.heap.size Z0J σ w) (h : (As.blk g E cs).ok w0) : (As.blk g E cs).ok w := by
 have hb : w0.heap[g]? = some (.cells cs.toArray E (0, 0)) := h
 exact (hw.ext.block g (Array.getElem?_eq_some_iff.1 hb).1 (fun e => e)).trans hb
def VCallX (P : Program) (fv : Value) (vals : List Value) (w : World) (R : Value → World → Prop) : Prop := ∃ f fn c caps, fv = .func (.func f) #[] (List.toArray caps) ∧ P.funcs[f]? = some fn ∧ (fn.name == "runtime.NumGoroutine") = false ∧ fn.body = some c ∧ Z0f P f (vals ++ caps) w R
theorem l_cally {Q : Post} {x : Operand} {fv : Value} {args : List Operand} {vals : List Value} {ats : Array TypeId} {R : Value → World → Prop} (hg : Z0t ops ρ g = true) (hN : Nat.blt d N = true) (hx : Z0g ρ x = some fv) (hv : Z1f ρ args vals) (h : VCallX P fv vals w R)
  (n : ∀ v w', R v w' → RunL P N ops ⟨false, Q⟩ rest ((d, v) :: ρ) w') : RunL P N ops ⟨false, Q⟩ (⟨some d, .call ⟨.value x, args.toArray, ats⟩, ty, pos, af, g⟩ :: rest) ρ w := by
 obtain ⟨f, fn, c, caps, rfl, hf, hn, hb, hc⟩ := h
 exact Z3g (caps := caps) hg hN hx hf hn hb hv hc n
end
theorem intR (c : Value) (k s : Int) (v : Value) (t : L8) (hL : t.length ≤ 1099511627776) (hk : 1 ≤ k ∧ k ≤ 8) (w : World) (hv : IB w v t) :
  Z0f P 71 [c, .agg #[.int .i64 k, .int .i64 s], v] w fun r w' => ∃ x e : Int, r = .tuple #[.int .u64 x, .int .i64 e] ∧ Grow w w' [] := by
 refine Z0o func71 rfl ntmps71 rfl ?_
 have H0 := St.start w
 refine Zk [1, 2] ?_
 refine Z03 (Z00 ?_)
 refine Z57 H0 rfl rfl rfl (fun b0_0 w1 H1 => ?_)
 refine Zg (Zg (Z01 (Z02 ?_)))
 refine Zk [2, 4] ?_
 refine Z03 (Z00 (Z09 Z5p rfl rfl rfl ?_))
 refine Z05 H1 mem0 rfl rfl underlying3 rfl rfl rfl ?_
 refine Zm ?_
 refine Zc func72 (ParseW k hk v t hL w1 (H1.iarg hv)) ?_
 rintro _ w2 ⟨x, p, e, rfl, hx, he, hG⟩
 have H2 := hG _ _ _ _ H1
 simp only [Zca, Zna] at H2
 refine Zm ?_
 refine Zx (Zx (Zx (Zg (Zg (Zg (Z01 (Z02 ?_)))))))
 refine Zk [8, 10] ?_
 refine Z03 (Z00 (Zm (Zm (Zg (Zg (Z01 (Z02 ?_)))))))
 refine Zk [6, 7] ?_
 refine Z0i ?_
 refine Z0P results71 rfl rfl ?_
 refine ⟨_, rfl, ?_⟩
 have H3 := St.del .head H2
 exact ⟨_, _, rfl, H3.grows⟩
theorem scaR (c : Value) (k : Int) (s : Nat) (v : Value) (t : L8) (hs : s ≤ 18) (w : World) (hv : IB w v t) :
  Z0f P 82 [c, .agg #[.int .i64 k, .int .i64 (s : Int)], v] w fun r w' => ∃ x e : Int, r = .tuple #[.int .u64 x, .int .i64 e] ∧ (t.length ≤ 1024 → Z6X t s → x = scV t s ∧ e = 0) ∧ Grow w w' [] := by
 refine Z0o func82 rfl ntmps82 rfl ?_
 have H0 := St.start w
 refine Zk [1, 2] ?_
 refine Z03 (Z00 ?_)
 refine Z57 H0 rfl rfl rfl (fun b0_0 w1 H1 => ?_)
 refine Zg (Zg (Z01 (Z02 ?_)))
 refine Zk [2, 4] ?_
 refine Z03 (Z00 (Z09 fo23_1 rfl rfl rfl ?_))
 refine Z05 H1 mem0 rfl rfl underlying3 rfl rfl rfl ?_
 refine Zm ?_
 refine Zc func83 (ParseSx t s v hs w1 (H1.iarg hv)) ?_
 rintro _ w2 ⟨x, p, e, rfl, hx, he, hxe, hG⟩
 have H2 := hG _ _ _ _ H1
 simp only [Zca, Zna] at H2
 refine Zm ?_
 refine Zx (Zx (Zx (Zg (Zg (Zg (Z01 (Z02 ?_)))))))
 refine Zk [8, 10] ?_
 refine Z03 (Z00 (Zm (Zm (Zg (Zg (Z01 (Z02 ?_)))))))
 refine Zk [6, 7] ?_
 refine Z0i ?_
 refine Z0P results82 rfl rfl ?_
 refine ⟨_, rfl, ?_⟩
 have H3 := St.del .head H2
 exact ⟨_, _, rfl, hxe, H3.grows⟩
theorem floR (b : Nat) (L : Cac) (hL : L.length = 41) (k s : Int) (A : Option Addr) (tc : Nat) (t : L8) (hLt : t.length ≤ 1099511627776) (w : World) (hS : Sep w.heap.size (fps (cacW b L)) w (cacW b L)) (hv : ∀ w1 : World, (∀ k, k < w.heap.size → ¬ fps (cacW b L) k → w1.heap[k]? = w.heap[k]?) → IB w1 (.slice A t.length tc) t) :
  Z0f P 75 [.pointer (some ⟨b, 0, none⟩), .agg #[.int .i64 k, .int .i64 s], .slice A t.length tc] w fun r w' => ∃ x e o L', r = .tuple #[.int .u64 x, .int .i64 e] ∧ Z5H t k o ∧ CaO L o L' ∧ L'.length = 41 ∧ Z1C w w' (cacW b L) (cacW b L') := by
 refine Z0o func75 rfl ntmps75 rfl ?_
 have H0 : St w w.heap.size (fps (cacW b L)) (cacW b L) w := St.startS hS
 refine Z03 (Z00 ?_)
 refine Z57 H0 rfl rfl rfl (fun b0_0 w1 H1 => ?_)
 refine Zg (Zg (Z01 (Z02 ?_)))
 refine Zk [0, 2, 4] ?_
 refine Z03 (Z00 (Zm (Z09 Z5p rfl rfl rfl ?_)))
 refine Z05 H1 mem0 rfl rfl underlying3 rfl rfl rfl ?_
 refine Zm ?_
 have H2 := St.frontL (l := [_, _]) H1
 simp only [Zca, Zna] at H2
 have H3 := St.frontL (l := [_, _]) H2
 simp only [Zca, Zna] at H3
 refine Zc func76 (FloatP b L hL k A tc t hLt w1 (St.rows (τ := cacW b L) H3) (Z6f (τ := cacW b L) H3 hv)) ?_
 rintro _ w4 ⟨x, road, place, e, L2, o, rfl, hFl, hNe, hCa, hL2, hX⟩
 have H4 := hX _ _ _ _ H3
 simp only [cacW, List.cons_append, List.nil_append] at H4
 refine Zm ?_
 refine Zx (Zx (Zx (Zx (Zg (Zg (Zg (Zg (Z01 (Z02 ?_)))))))))
 refine Zk [8, 11] ?_
 refine Z03 (Z00 (Zm (Zm (Zg (Zg (Z01 (Z02 ?_)))))))
 refine Zk [6, 7] ?_
 refine Z0i ?_
 refine Z0P results75 rfl rfl ?_
 refine ⟨_, rfl, ?_⟩
 have H7 := St.del (.tail (.tail .head)) (St.front1 (St.front1 H4))
 exact ⟨_, _, o, L2, rfl, hNe, hCa, hL2, H7.transS⟩
theorem plaR (c : Value) (k s : Int) (v : Value) (t : L8) (hL : t.length ≤ 1099511627776) (p : Nat) (F : Value) (hF : ∀ w : World, IB w v t → VCall P F [v] w fun r w' => ∃ b p e : Int, r = .tuple #[.int .u64 b, .int .i64 p, .int .i64 e] ∧ u64I b ∧ i64I e ∧ Grow w w' []) (w : World) (hv : IB w v t) (hp : (As.blk p 141 [F]).ok w) :
  Z0f P 161 [c, .agg #[.int .i64 k, .int .i64 s], v, .pointer (some ⟨p, 0, none⟩)] w fun r w' => ∃ x e : Int, r = .tuple #[.int .u64 x, .int .i64 e] ∧ Grow w w' [] := by
 refine Z0o func161 rfl ntmps161 rfl ?_
 have H0 := St.start w
 refine Zk [1, 2, 3] ?_
 refine Z03 (Z00 ?_)
 refine Z57 H0 rfl rfl rfl (fun b0_0 w1 H1 => ?_)
 refine Zg (Zg (Z01 (Z02 ?_)))
 refine Zk [2, 3] ?_
 refine Z03 (Z00 ?_)
 refine Z05 (Z0r (St_okA H1 hp)) mem0 rfl rfl underlying141 rfl rfl rfl ?_
 refine Zm ?_
 refine l_callx rfl rfl rfl (.cons rfl .nil) (hF w1 (H1.iarg hv)) ?_
 rintro _ w2 ⟨x, q, e, rfl, hx, he, hG⟩
 have H2 := hG _ _ _ _ H1
 simp only [Zca, Zna] at H2
 refine Zm ?_
 refine Zx (Zx (Zx (Zg (Zg (Zg (Z01 (Z02 ?_)))))))
 refine Zk [9, 11] ?_
 refine Z03 (Z00 (Zm (Zm (Zg (Zg (Z01 (Z02 ?_)))))))
 refine Zk [7, 8] ?_
 refine Z0i ?_
 refine Z0P results161 rfl rfl ?_
 refine ⟨_, rfl, ?_⟩
 have H3 := St.del .head H2
 exact ⟨_, _, rfl, H3.grows⟩
def RdK (k s : Int) (t : L8) (b : Nat) (L : Cac) (w : World) (r : Value) (w' : World) : Prop := ∃ x e o L', r = .tuple #[.int .u64 x, .int .i64 e] ∧ (k = 12 → t.length ≤ 1024 → Z6X t s.toNat → x = scV t s.toNat ∧ e = 0) ∧ ((k = 9 ∨ k = 10) → Z5H t k o) ∧ (¬ (k = 9 ∨ k = 10) → o = none) ∧ CaO L o L' ∧ L'.length = 41 ∧ Z1C w w' (cacW b L) (cacW b L')
theorem rdK_of {k s : Int} {t : L8} {b : Nat} {L : Cac} {w w' : World} {r : Value} (hL : L.length = 41) (hk : ¬ (k = 9 ∨ k = 10)) (h : ∃ x e : Int, r = .tuple #[.int .u64 x, .int .i64 e] ∧ (k = 12 → t.length ≤ 1024 → Z6X t s.toNat → x = scV t s.toNat ∧ e = 0) ∧ Grow w w' []) : RdK k s t b L w r w' := by
 obtain ⟨x, e, h1, h2, hG⟩ := h
 exact ⟨x, e, none, L, h1, h2, fun h => absurd h hk, fun _ => rfl, rfl, hL, Grow.trans0 hG _⟩
theorem readK (b : Nat) (L : Cac) (hL : L.length = 41) (k s : Int) (hk : 1 ≤ k ∧ k ≤ 14) (hs : 0 ≤ s ∧ s ≤ (if k = 12 then 18 else 0)) (A : Option Addr) (tc : Nat) (t : L8) (hLt : t.length ≤ 1099511627776) (p13 p14 : Nat) (w : World) (hS : Sep w.heap.size (fps (cacW b L)) w (cacW b L))
  (hv : ∀ w1 : World, (∀ k, k < w.heap.size → ¬ fps (cacW b L) k → w1.heap[k]? = w.heap[k]?) → IB w1 (.slice A t.length tc) t) (h13 : (As.blk p13 141 [.func (.func 87) #[] #[]]).ok w) (h14 : (As.blk p14 141 [.func (.func 89) #[] #[]]).ok w) :
  VCallX P (rdV p13 p14 k) [.pointer (some ⟨b, 0, none⟩), .agg #[.int .i64 k, .int .i64 s], .slice A t.length tc] w (RdK k s t b L w) := by
 have hv0 := hv w fun _ _ _ => rfl
 by_cases h8 : k ≤ 8
 ·rw [rdV, if_pos h8]
  exact ⟨_, _, _, [], rfl, func71, rfl, rfl, (intR _ k s _ t hLt ⟨hk.1, h8⟩ w hv0).mono fun r w' ⟨x, e, h1, h2⟩ => rdK_of hL ZO ⟨x, e, h1, fun h => by omega, h2⟩⟩
 by_cases h10 : k ≤ 10
 ·rw [rdV, if_neg h8, if_pos h10]
  exact ⟨_, _, _, [], rfl, func75, rfl, rfl, (floR b L hL k s A tc t hLt w hS hv).mono fun r w' ⟨x, e, o, L', h1, h2, h3, h4, h5⟩ => ⟨x, e, o, L', h1, fun h => by omega, fun _ => h2, fun h => by omega, h3, h4, h5⟩⟩
 by_cases h11 : k = 11
 ·rw [rdV, if_neg h8, if_neg h10, if_pos h11]
  exact ⟨_, _, _, [], rfl, func79, rfl, rfl, (truthC _ k s t _ hLt w hv0).mono fun r w' ⟨x, e, h1, _, _, h2⟩ => rdK_of hL ZO ⟨x, e, h1, fun h => by omega, h2⟩⟩
 by_cases h12 : k = 12
 ·rw [rdV, if_neg h8, if_neg h10, if_neg h11, if_pos h12]
  rw [if_pos h12] at hs
  obtain ⟨n, rfl⟩ : ∃ n : Nat, s = (n : Int) := ⟨s.toNat, ZO⟩
  exact ⟨_, _, _, [], rfl, func82, rfl, rfl, (scaR _ k n _ t ZO w hv0).mono fun r w' ⟨x, e, h1, h3, h2⟩ => rdK_of hL ZO ⟨x, e, h1, fun _ => h3, h2⟩⟩
 have hp : ∀ (p : Nat) (F : Value), (∀ w : World, IB w (.slice A t.length tc) t → VCall P F [.slice A t.length tc] w fun r w' => ∃ b p e : Int, r = .tuple #[.int .u64 b, .int .i64 p, .int .i64 e] ∧ u64I b ∧ i64I e ∧ Grow w w' []) → (As.blk p 141 [F]).ok w → VCallX P (dayV p) [.pointer (some ⟨b, 0, none⟩), .agg #[.int .i64 k, .int .i64 s], .slice A t.length tc] w (RdK k s t b L w) := fun p F hF hpo =>
  ⟨_, _, _, [.pointer (some ⟨p, 0, none⟩)], rfl, func161, rfl, rfl, (plaR _ k s _ t hLt p F hF w hv0 hpo).mono fun r w' ⟨x, e, h1, h2⟩ => rdK_of hL ZO ⟨x, e, h1, fun h => by omega, h2⟩⟩
 by_cases h13k : k = 13
 ·rw [rdV, if_neg h8, if_neg h10, if_neg h11, if_neg h12, if_pos h13k]
  exact hp _ _ (fun w hv => ⟨_, _, _, rfl, func87, rfl, rfl, DayD _ t hLt w hv⟩) h13
 rw [rdV, if_neg h8, if_neg h10, if_neg h11, if_neg h12, if_neg h13k]
 exact hp _ _ (fun w hv => ⟨_, _, _, rfl, func89, rfl, rfl, MomentD _ t hLt w hv⟩) h14
theorem Z5H.no {t : L8} {k : Int} {o : Option Int} (h : Z5H t k o) {d : Kd} {ng more : Bool} {wd man x p : Int} (hk : kd k = some d) (hs : Z5o t ng wd man x more p 0) (hw : ¬ wdP wd man) (hh : ¬ shP k man x more) (hx : inQ x) : o = some x := by
 cases h with
 | kind h2 => rw [hk] at h2; cases h2
 | err _ hs2 he => obtain ⟨_, _, _, _, _, _, h3⟩ := hs.unique hs2; exact absurd h3.symm he
 | word _ hs2 H2 => obtain ⟨rfl, rfl, rfl, rfl, rfl, rfl, _⟩ := hs.unique hs2; exact absurd H2 hw
 | short _ hs2 _ hh2 => obtain ⟨rfl, rfl, rfl, rfl, rfl, rfl, _⟩ := hs.unique hs2; exact absurd hh2 hh
 | far _ hs2 _ _ hx2 => obtain ⟨rfl, rfl, rfl, rfl, rfl, rfl, _⟩ := hs.unique hs2; exact absurd hx hx2
 | ask _ hs2 _ _ _ => obtain ⟨rfl, rfl, rfl, rfl, rfl, rfl, _⟩ := hs.unique hs2; rfl
theorem Z5H.unique {t : L8} {k : Int} {o o' : Option Int} (h : Z5H t k o) (h' : Z5H t k o') : o = o' := by
 rcases o with _ | y
 ·rcases o' with _ | z
  ·rfl
  cases h' with
  | ask hk hs hw hh hx => exact h.no hk hs hw hh hx
 cases h with
 | ask hk hs hw hh hx => exact (h'.no hk hs hw hh hx).symm
def Z6o (o : Option Int) : Int := match o with | none => 0 | some q => (Z0K q).1
theorem NeedPP (k : Int) (A : Option Addr) (tc : Nat) (t : L8) (hLt : t.length ≤ 1099511627776) (w : World) (hv : IB w (.slice A t.length tc) t) :
  Z0f P 60 [.int .i64 k, .slice A t.length tc] w fun r w' => ∃ o, r = .tuple #[.int .i64 (Z6o o), .bool o.isSome] ∧ Z5H t k o ∧ Grow w w' [] := by
 refine Z0o func60 rfl ntmps60 rfl ?_
 have H0 := St.start w
 refine Z03 (Z00 (Zg (Zg (Z01 (Z02 ?_)))))
 refine Zk [0, 1] ?_
 refine Z03 (Z00 (Zm (Zm ?_)))
 refine Zc func137 (asksE none k A tc t hLt w (H0.iarg hv)) ?_
 rintro _ w1 ⟨cp1, k1, A1, tl1, tc1, ng, wd, man, x, more, p, e, rfl, hAsk, hG⟩
 have H1 := hG _ _ _ _ H0
 simp only [Zca, Zna] at H1
 refine Zm ?_
 refine Zx (Zx (Zx ?_))
 refine Z0X H1 ta199 rfl rfl (fun b1_7 w2 H2 => ?_)
 refine Z0m H2 .head (.zero (.zero (.zero (.zero (.zero (.zero (.zero (.zero .nil)))))))) rfl Z6p rfl rfl ZC (fun w3 H3 => ?_)
 refine Zg (Zg (Z01 (Z02 ?_)))
 refine Zk [6, 8] ?_
 refine Z03 (Z03 (Z00 (Zm ?_)))
 refine Zo ?_
 refine Zm ?_
 apply l_orS H3 2 [6] rfl rfl (.cons rfl (.cons rfl .nil)) rfl rfl (fun _ => rfl) rfl rfl rfl
 ·intro hg2_3
  refine Z1b H3 mem0 rfl rfl underlying199 rfl Z6p rfl (.take (.take (.take (.take (.take (.take (.take (.take .nil)))))))) ?_
  refine Zc func138 (wordP cp1 A1 tl1 tc1 k1 wd man x ng more w3) ?_
  rintro _ w4 ⟨rfl, hG⟩
  have H4 := hG _ _ _ _ H3
  simp only [Zca, Zna] at H4
  refine Z01 ?_
  exact Z1P H4 rfl (.cons rfl (ZF hg2_3) (.cons rfl rfl .nil))
 intro w5 H5
 refine Zm ?_
 apply l_orS H5 2 [6] rfl rfl (.cons rfl (.cons rfl .nil)) rfl rfl (fun _ => rfl) rfl rfl rfl
 ·intro hg2_7
  refine Z1b H5 mem0 rfl rfl underlying199 rfl Z6p rfl (.take (.take (.take (.take (.take (.take (.take (.take .nil)))))))) ?_
  refine Zc func139 (shortP cp1 A1 tl1 tc1 k1 wd man x ng more w5) ?_
  rintro _ w6 ⟨rfl, hG⟩
  have H6 := hG _ _ _ _ H5
  simp only [Zca, Zna] at H6
  refine Z01 ?_
  exact Z1P H6 rfl (.cons rfl (ZF hg2_7) (.cons rfl rfl .nil))
 intro w7 H7
 refine Zm ?_
 apply l_orS H7 3 [6] rfl rfl (.cons rfl (.cons rfl .nil)) rfl rfl (fun _ => rfl) rfl rfl rfl
 ·intro hg2_11
  refine Z1b H7 mem0 rfl rfl underlying199 rfl Z6p rfl (.take (.take (.take (.take (.take (.take (.take (.take .nil)))))))) ?_
  refine Zc func140 (tabledP cp1 A1 tl1 tc1 k1 wd man x ng more w7) ?_
  rintro _ w8 ⟨rfl, hG⟩
  have H8 := hG _ _ _ _ H7
  simp only [Zca, Zna] at H8
  first | refine Z38 rfl rfl rfl ?_ | refine Z3v rfl rfl rfl ?_
  refine Z01 ?_
  exact Z1P H8 rfl (.cons rfl (ZF hg2_11) (.cons rfl rfl .nil))
 intro w9 H9
 refine Z01 (Z02 ?_)
 refine Zk [6, 30] ?_
 (first | refine Z0c rfl ?_ ?_ | refine Z08 rfl ?_ ?_) <;> intro hc0
 ·refine Z03 (Z00 (Zg (Zg (Z01 (Z02 ?_)))))
  refine Zk [4, 5] ?_
  refine Z0i ?_
  refine Z07 ?_
  refine Z0P results60 rfl rfl ?_
  refine ⟨_, rfl, ?_⟩
  have H10 := St.del .head H9
  rcases hAsk with ⟨hno, rfl, rfl⟩ | ⟨d, hk, hsc, rfl, rfl, rfl, rfl, rfl⟩
  ·exact ⟨none, rfl, .kind hno, H10.grows⟩
  by_cases he : e = 0
  ·subst he
   by_cases hw' : wdP wd man
   ·exact ⟨none, rfl, .word hk hsc hw', H10.grows⟩
   by_cases hs : shP k man x more
   ·exact ⟨none, rfl, .short hk hsc hw' hs, H10.grows⟩
   by_cases hx : inQ x
   ·exfalso
    rcases hc0 with ((h | h) | h) | h
    ·exact h rfl
    ·exact hw' h
    ·exact hs h
    exact h hx
   exact ⟨none, rfl, .far hk hsc hw' hs hx, H10.grows⟩
  exact ⟨none, rfl, .err hk hsc he, H10.grows⟩
 have he0 : e = 0 := Classical.not_not.1 fun h => hc0 (.inl (.inl (.inl h)))
 have hc1 : ¬ wdP wd man := fun h => hc0 (.inl (.inl (.inr h)))
 have hc2 : ¬ shP k1 man x more := fun h => hc0 (.inl (.inr h))
 have hc3 : inQ x := Classical.not_not.1 fun h => hc0 (.inr h)
 subst he0
 rcases hAsk with ⟨_, _, h30⟩ | ⟨d, hk, hsc, rfl, rfl, rfl, rfl, rfl⟩
 ·exact absurd h30 ZO
 have hbd := hsc.bds
 refine Z0a (Z02 ?_)
 refine Zk [6] ?_
 refine Z03 (Z00 (Z09 Z53 rfl rfl rfl (Z09 Z5i rfl rfl rfl ?_)))
 refine Z05 H9 mem0 rfl rfl underlying3 rfl rfl rfl ?_
 refine Zp func141 (whereP x ZO _) ?_
 refine Zm ?_
 refine Zx (Zx (Zx (Zg (Z01 (Z02 ?_)))))
 refine Zk [4] ?_
 refine Z03 (Z00 (Zm (Zg (Zg (Z01 (Z02 ?_))))))
 refine Zk [4, 5] ?_
 refine Z0i ?_
 refine Z0P results60 rfl rfl ?_
 refine ⟨_, rfl, ?_⟩
 have H11 := St.del .head H9
 exact ⟨some x, rfl, .ask hk hsc hc1 hc2 hc3, H11.grows⟩
section
variable {P : Program} {N : Nat} {ops : Array Oper} {Q : Z26} {ρ : Env} {w w0 : World} {rest : List Oper} {d : Nat} {ty : TypeId} {pos : String} {af : Array Edge} {g : Option (Nat × Bool)}
theorem l_eqlsn {Q : Z26} {x : Operand} {A : Option Addr} {n c : Nat} {T U e : TypeId} (hT : P.underlying T = some (.slice e)) (hg : Z0t ops ρ g = true) (hN : Nat.blt d N = true) (hx : Z0g ρ x = some (.slice A n c)) (h : RunL P N ops Q rest ((d, .bool (decide (A.isNone = true))) :: ρ) w) : RunL P N ops Q (⟨some d, .binOp .eql T x (.const (.slice none 0 0)) U, ty, pos, af, g⟩ :: rest) ρ w :=
 Z1n hg rfl hN (fun a ha => by
  have hgd : (eqGuard .eql T x (.const (.slice none 0 0)) (.slice A n c) (.slice none 0 0)).run P w = .ok () w := by simp [eqGuard]
  have hy : a.eval (.const (.slice none 0 0)) = .slice none 0 0 := rfl
  simp only [execOp, ha.eval hx, hy, Sem.run_bind, hgd, Result.andThen_ok]
  rw [show (binOp .eql T (.slice A n c) (.slice none 0 0)).run P w = .ok (.bool A.isNone) w by simp only [binOp]; simp [run_equal_slice_nil w T e A n c hT]]
  cases A <;> rfl) h
end
theorem l_fieldv {Q : Z26} {P : Program} {N : Nat} {ρ : Env} {w : World} {ops : Array Oper} {rest : List Oper} {d : Nat} {ty : TypeId} {pos : String} {af : Array Edge} {g : Option (Nat × Bool)} {x : Operand} {cs : List Value} {v : Value} {f : Nat} {T : TypeId} {fs : Array Field} {fl : Field} {u : TypeDesc}
  (hg : Z0t ops ρ g = true) (hN : Nat.blt d N = true) (hT : P.underlying T = some (.struct fs)) (hf : fs[f]? = some fl) (hu : P.underlying fl.type = some u) (hp : Z1V u = true) (hx : Z0g ρ x = some (.agg cs.toArray)) (hv : cs[fl.offset]? = some v)
  (n : RunL P N ops Q rest ((d, v) :: ρ) w) : RunL P N ops Q (⟨some d, .field T x f, ty, pos, af, g⟩ :: rest) ρ w := by
 refine Z1n hg rfl hN (fun a ha => ?_) n
 have hag : (isAgg fl.type).run P w = .ok false w := by
  simp only [isAgg, Sem.run_bind, run_underlying hu, Result.andThen_ok]
  cases u <;> simp_all [Z1V]
 simp [execOp, ha.eval hx, Instr.field, run_underlying hT, hf, part, hag, hv, asAgg]
theorem cloneB (v : Value) (t : L8) (hL : t.length ≤ 1099511627776) (w : World) (hv : IB w v t) :
  Z0f P 34 [v] w fun r w' => ∃ v', r = v' ∧ Grow w w' [As.rb 5 v' t] := by
 refine Z0o func34 rfl ntmps34 rfl ?_
 have H0 := St.start w
 obtain ⟨A, c, rfl, hc, hsl⟩ := hv
 have hv : IB w (.slice A (bys t).length c) t := ⟨A, c, rfl, hc, hsl⟩
 have hbl : (bys t).length = t.length := by simp [bys]
 refine Z03 (Z00 (Zg (Z01 (Z02 ?_))))
 refine Zk [0] ?_
 refine Z03 (Z03 (Z00 (Zm ?_)))
 refine l_eqlsn underlying25 rfl rfl rfl ?_
 refine Z01 (Z02 ?_)
 refine Zk [0, 4] ?_
 (first | refine Z0c rfl ?_ ?_ | refine Z08 rfl ?_ ?_) <;> intro hc0
 ·refine Z03 (Z00 (Zg (Z01 (Z02 ?_))))
  refine Zk [2] ?_
  refine Z0i ?_
  refine Z07 ?_
  refine Z0e results34 rfl ?_
  refine ⟨_, rfl, ?_⟩
  have hA : A = none := by simpa using hc0
  obtain rfl : t = [] := by
   rcases Nat.eq_zero_or_pos t.length with h0 | h0
   ·exact List.eq_nil_of_length_eq_zero h0
   obtain ⟨ad, e⟩ := hsl.some_ ZO
   rw [hA] at e
   cases e
  exact ⟨_, rfl, (H0.nil 5).grows⟩
 refine Z0a (Z02 ?_)
 refine Zk [0] ?_
 refine Z03 (Z00 ?_)
 refine v_lit0 H0 rfl rfl underlying25 tz5 (fun v3_0 w1 H1 => ?_)
 refine Zm ?_
 refine Z45 H1 rfl rfl underlying25 ti5 rfl rfl rfl (by first | exact H1.io mem0 | exact H1.iarg hv | assumption) (by first | exact Z4K _ _ | exact Z5L _ | simp [Value.oneCell']) (by first | (simp; done) | (simp; omega)) (by first | (simp; done) | (simp; omega)) (fun v3_2 w2 H2 => ?_)
 refine Zg (Z01 (Z02 ?_))
 refine Zk [2] ?_
 refine Z0i ?_
 refine Z0e results34 rfl ?_
 refine ⟨_, rfl, ?_⟩
 exact ⟨_, rfl, H2.grows⟩
def nulP (q : Bool) (t nl : List UInt8) : Prop := q = false ∧ t = nl
inductive RdX (k s : Int) (q hn : Bool) (t nl : List UInt8) (L : Cac) : Int → List UInt8 → Bool → Int → Option Int → Cac → Prop
 | kind (h : ¬ okT k s) : RdX k s q hn t nl L 0 [] false 170 none L
 | null (h : okT k s) (h2 : nulP q t nl) (h3 : hn = true) : RdX k s q hn t nl L 0 [] true 0 none L
 | nonull (h : okT k s) (h2 : nulP q t nl) (h3 : hn = false) : RdX k s q hn t nl L 0 [] false 210 none L
 | val {x e : Int} {o : Option Int} {L' : Cac} (h : okT k s) (h2 : ¬ nulP q t nl) (h3 : k ≤ 14) (h4 : k = 12 → t.length ≤ 1024 → Z6X t s.toNat → x = scV t s.toNat ∧ e = 0) (h5 : (k = 9 ∨ k = 10) → Z5H t k o) (h6 : ¬ (k = 9 ∨ k = 10) → o = none) (h7 : CaO L o L') (h8 : L'.length = 41) : RdX k s q hn t nl L x [] false e o L'
 | long (h : okT k s) (h2 : ¬ nulP q t nl) (h3 : 15 ≤ k) (h4 : 4096 < t.length) : RdX k s q hn t nl L 0 [] false 212 none L
 | text (h : okT k s) (h2 : ¬ nulP q t nl) (h3 : 15 ≤ k) (h4 : t.length ≤ 4096) : RdX k s q hn t nl L 0 t false 0 none L
theorem ReadC (b : Nat) (L : Cac) (hL : L.length = 41) (cm qu fr to k s : Int) (nl nm : List UInt8) (tr q hn : Bool) (A : Option Addr) (tc : Nat) (t : L8) (hLt : t.length ≤ 1099511627776) (w : World) (hS : Sep w.heap.size (fps (cacW b L)) w (cacW b L)) (hv : ∀ w1 : World, (∀ k, k < w.heap.size → ¬ fps (cacW b L) k → w1.heap[k]? = w.heap[k]?) → IB w1 (.slice A t.length tc) t) :
  Z0f P 21 [.pointer (some ⟨b, 0, none⟩), .agg #[.int .u8 cm, .int .u8 qu, str nl, .bool tr], .agg #[str nm, .int .i64 k, .int .i64 s, .bool hn], .agg #[.int .i64 fr, .int .i64 to, .bool q, .slice A t.length tc]] w fun r w' => ∃ x vt lt nu e o L', r = .tuple #[.int .u64 x, vt, .bool nu, .int .i64 e] ∧ RdX k s q hn t nl L x lt nu e o L' ∧ Z1C w w' (cacW b L) (As.rb 5 vt lt :: cacW b L') := by
 refine Z0o func21 rfl ntmps21 rfl ?_
 have H0 : St w w.heap.size (fps (cacW b L)) (cacW b L) w := St.startS hS
 refine Z03 (Z00 ?_)
 refine Z57 H0 rfl rfl rfl (fun b0_0 w1 H1 => ?_)
 refine Z57 H1 rfl rfl rfl (fun b0_1 w2 H2 => ?_)
 refine Z57 H2 rfl rfl rfl (fun b0_2 w3 H3 => ?_)
 refine Zg (Zg (Zg (Zg (Z01 (Z02 ?_)))))
 refine Zk [0, 5, 6, 7] ?_
 refine Z03 (Z0d (Z03 (Z00 (Z09 Z6e rfl rfl rfl ?_))))
 refine Z1b H3 mem1 rfl rfl underlying23 rfl tz23 rfl (.drop (.take (.take .nil))) ?_
 refine Zc func32 (checkT k s w3) ?_
 rintro _ w4 ⟨rfl, hG⟩
 have H4 := hG _ _ _ _ H3
 simp only [Zca, Zna] at H4
 refine Zo ?_
 refine Zg (Z01 (Z02 ?_))
 refine Zk [0, 5, 6, 7, 12] ?_
 (first | refine Z0c rfl ?_ ?_ | refine Z08 rfl ?_ ?_) <;> intro hc0
 ·refine Z03 (Z00 (Zg (Zg (Zg (Zg (Z01 (Z02 ?_)))))))
  refine Zk [8, 9, 10, 11] ?_
  refine Z0i ?_
  refine Z0k ?_
  refine Z07 ?_
  refine Z12 results21 (.tmp rfl (.tmp rfl (.tmp rfl (.tmp rfl .nil)))) rfl ?_
  refine ⟨_, rfl, ?_⟩
  have H9 := St.del (.tail (.tail .head)) (St.del (.tail (.tail (.tail .head))) (St.del (.tail (.tail (.tail (.tail .head)))) (St.front4 (St.front4 H4))))
  exact ⟨_, _, [], _, _, none, L, rfl, .kind (fun h => hc0 (if_pos h)), (H9.nil 5).transS⟩
 have hok : okT k s := Classical.not_not.1 fun h => hc0 (by rw [if_neg h]; decide)
 refine Z03 (Z00 ?_)
 refine Z1b H4 mem2 rfl rfl underlying52 rfl tz52 rfl (.take (.take (.take (.take .nil)))) ?_
 refine Z1b H4 mem0 rfl rfl underlying58 rfl tz58 rfl (.take (.take (.take (.take .nil)))) ?_
 refine Z0I rfl rfl func46 rfl rfl (.cons rfl (.cons rfl .nil)) (isNullF cm qu fr to nl t tr q _ hLt w4 (H4.ikM hv)) ?_
 rintro _ w10 ⟨rfl, hG⟩
 have H10 := hG _ _ _ _ H4
 simp only [Zca, Zna] at H10
 refine Zg (Z01 (Z02 ?_))
 refine Zk [0, 6, 7, 17] ?_
 (first | refine Z0c rfl ?_ ?_ | refine Z08 rfl ?_ ?_) <;> intro hc1
 ·refine Z03 (Z03 (Z00 (Z09 fo56_2 rfl rfl rfl ?_)))
  refine Z05 H10 mem1 rfl rfl underlying4 rfl rfl rfl ?_
  first | refine Z38 rfl rfl rfl ?_ | refine Z3v rfl rfl rfl ?_
  refine Z01 (Z02 ?_)
  refine Zk [23] ?_
  (first | refine Z0c rfl ?_ ?_ | refine Z08 rfl ?_ ?_) <;> intro hc2
  ·refine Z03 (Z00 (Zg (Zg (Zg (Zg (Z01 (Z02 ?_)))))))
   refine Zk [8, 9, 10, 11] ?_
   refine Z0i ?_
   refine Z07 ?_
   refine Z0k ?_
   refine Z07 ?_
   refine Z12 results21 (.tmp rfl (.tmp rfl (.tmp rfl (.tmp rfl .nil)))) rfl ?_
   refine ⟨_, rfl, ?_⟩
   have H15 := St.del (.tail (.tail .head)) (St.del (.tail (.tail (.tail .head))) (St.del (.tail (.tail (.tail (.tail .head)))) (St.front4 (St.front4 H10))))
   exact ⟨_, _, [], _, _, none, L, rfl, .nonull hok hc1 (by cases hn <;> simp_all), (H15.nil 5).transS⟩
  refine Z0a (Z02 ?_)
  refine Zk [] ?_
  refine Z03 (Z00 (Zg (Zg (Zg (Zg (Z01 (Z02 ?_)))))))
  refine Z0i ?_
  refine Z0k ?_
  refine Z07 ?_
  refine Z12 results21 (.tmp rfl (.tmp rfl (.tmp rfl (.tmp rfl .nil)))) rfl ?_
  refine ⟨_, rfl, ?_⟩
  have H20 := St.del (.tail (.tail .head)) (St.del (.tail (.tail (.tail .head))) (St.del (.tail (.tail (.tail (.tail .head)))) (St.front4 (St.front4 H10))))
  exact ⟨_, _, [], _, _, none, L, rfl, .null hok hc1 (by cases hn <;> simp_all), (H20.nil 5).transS⟩
 refine Z03 (Z00 (Z09 Z6e rfl rfl rfl ?_))
 refine Z1b H10 mem1 rfl rfl underlying23 rfl tz23 rfl (.drop (.take (.take .nil))) ?_
 refine Zc func33 (textsC k s w10) ?_
 rintro _ w21 ⟨rfl, hG⟩
 have H21 := hG _ _ _ _ H10
 simp only [Zca, Zna] at H21
 first | refine Z38 rfl rfl rfl ?_ | refine Z3v rfl rfl rfl ?_
 refine Zg (Z01 (Z02 ?_))
 refine Zk [0, 6, 7, 24] ?_
 (first | refine Z0c rfl ?_ ?_ | refine Z08 rfl ?_ ?_) <;> intro hc3
 ·refine Z03 ?_
  have H22 := H21.drewn
  have hk14 : 1 ≤ k ∧ k ≤ 14 := by have h1 := hok.1; omega
  have hs2 := hok.2
  refine Z1a (n := 17) [Zz,Zz,Zz,Zz,Zz,Zz,Zz,Zz,Zz,Zz,Zz,Zz,Zz,Zz,Zz,Zz,Zz] (fun wS => (As.blk b0_1 56 [str nm, .int .i64 k, .int .i64 s, .bool hn]).ok wS ∧ (As.blk b0_2 58 [.int .i64 fr, .int .i64 to, .bool q, .slice A t.length tc]).ok wS) ZK rfl rfl ?_
  apply Zu (L' := [Zz,Zy,Zz,Zz,Zz,Zz,Zz,Zz,Zz,Zz,Zz,Zz,Zz,Zz,Zz,Zz,Zz]) 1 (⟨H22.ok mem1, H22.ok mem0⟩)
  ·intro wS sS
   refine Z09 Z6e rfl rfl rfl (Z01 ?_)
   exact Z04 rfl
  apply Zu (L' := [Zz,Zy,Zy,Zz,Zz,Zz,Zz,Zz,Zz,Zz,Zz,Zz,Zz,Zz,Zz,Zz,Zz]) 2 (⟨H22.ok mem1, H22.ok mem0⟩)
  ·intro wS sS
   refine Z09 Z5p rfl rfl rfl (Z01 ?_)
   exact Z04 rfl
  apply Zu (L' := [Zz,Zy,Zy,Zy,Zz,Zz,Zz,Zz,Zz,Zz,Zz,Zz,Zz,Zz,Zz,Zz,Zz]) 3 (⟨H22.ok mem1, H22.ok mem0⟩)
  ·intro wS sS
   refine Z05 (Z0r sS.1) mem0 rfl rfl underlying3 rfl rfl rfl ?_
   refine Z01 ?_
   exact Z04 rfl
  apply Zu (L' := [Zz,Zy,Zy,Zy,Zz,Zz,Zy,Zz,Zz,Zz,Zz,Zz,Zz,Zz,Zz,Zz,Zz]) 6 (⟨H22.ok mem1, H22.ok mem0⟩)
  ·intro wS sS
   refine Zm (Z01 ?_)
   exact Z04 rfl
  apply Zu (L' := [Zz,Zy,Zy,Zy,Zz,Zz,Zy,Zy,Zz,Zz,Zz,Zz,Zz,Zz,Zz,Zz,Zz]) 7 (⟨H22.ok mem1, H22.ok mem0⟩)
  ·intro wS sS
   refine Z09 Z6e rfl rfl rfl (Z01 ?_)
   exact Z04 rfl
  apply Zu (L' := [Zz,Zy,Zy,Zy,Zz,Zz,Zy,Zy,Zy,Zz,Zz,Zz,Zz,Zz,Zz,Zz,Zz]) 8 (⟨H22.ok mem1, H22.ok mem0⟩)
  ·intro wS sS
   refine Z1b (Z0r sS.1) mem0 rfl rfl underlying23 rfl tz23 rfl (.drop (.take (.take .nil))) ?_
   refine Z01 ?_
   exact Z04 rfl
  apply Zu (L' := [Zz,Zy,Zy,Zy,Zz,Zz,Zy,Zy,Zy,Zy,Zz,Zz,Zz,Zz,Zz,Zz,Zz]) 9 (⟨H22.ok mem1, H22.ok mem0⟩)
  ·intro wS sS
   refine Z09 Z6Q rfl rfl rfl (Z01 ?_)
   exact Z04 rfl
  apply Zu (L' := [Zz,Zy,Zy,Zy,Zz,Zz,Zy,Zy,Zy,Zy,Zy,Zz,Zz,Zz,Zz,Zz,Zz]) 10 (⟨H22.ok mem1, H22.ok mem0⟩)
  ·intro wS sS
   refine Z05 (Z0r sS.2) mem0 rfl rfl underlying25 rfl rfl rfl ?_
   refine Z01 ?_
   exact Z04 rfl
  refine Z0v (L' := [Zy,Zy,Zy,Zy,Zz,Zz,Zy,Zy,Zy,Zy,Zy,Zz,Zz,Zz,Zz,Zz,Zz]) 0 ZK rfl rfl ?_
  refine Zc func35 (kindsC w21.drew) ?_
  rintro _ w23 ⟨p13, p14, rfl, hG⟩
  have H23 := hG _ _ _ _ H22
  simp only [Zca, Zna] at H23
  refine Z01 ?_
  refine Z0n (⟨H23.ok mem3, H23.ok mem2⟩) ?_
  apply Zu (L' := [Zy,Zy,Zy,Zy,Zy,Zz,Zy,Zy,Zy,Zy,Zy,Zz,Zz,Zz,Zz,Zz,Zz]) 4 (⟨H23.ok mem3, H23.ok mem2⟩)
  ·intro wS sS
   refine l_elemA (j := k.toNat) (vs := [rdV p13 p14 k, wrV k]) rfl rfl underlying78 underlying77 tz77 rfl rfl ZO ZO (kd_at ZO) ?_
   refine Z01 ?_
   exact Z04 rfl
  refine Z0v (L' := [Zy,Zy,Zy,Zy,Zy,Zy,Zy,Zy,Zy,Zy,Zy,Zz,Zz,Zz,Zz,Zz,Zz]) 5 ZK rfl rfl ?_
  refine l_fieldv rfl rfl underlying77 rfl underlying74 rfl rfl rfl ?_
  refine Z01 ?_
  refine Z0n (⟨H23.ok mem3, H23.ok mem2⟩) ?_
  refine Z0v (L' := [Zy,Zy,Zy,Zy,Zy,Zy,Zy,Zy,Zy,Zy,Zy,Zy,Zz,Zz,Zz,Zz,Zz]) 11 ZK rfl rfl ?_
  have H24 := St.frontL (l := [_, _, _, _, _, _]) H23
  simp only [Zca, Zna] at H24
  have H25 := St.frontL (l := [_, _, _, _, _, _]) H24
  simp only [Zca, Zna] at H25
  refine l_cally rfl rfl rfl (.cons rfl (.cons rfl (.cons rfl .nil))) (readK b L hL k s hk14 hs2 A tc t hLt p13 p14 w23 (St.rows (τ := cacW b L) H25) (Z6f (τ := cacW b L) H25 hv) (H25.ok mem3) (H25.ok mem2)) ?_
  rintro _ w26 ⟨x, e, o, L2, rfl, hR1, hR2, hR3, hR4, hR5, hX⟩
  have H26 := hX _ _ _ _ H25
  simp only [cacW, List.cons_append, List.nil_append] at H26
  refine Z01 ?_
  refine Z0n (⟨H26.ok mem5, H26.ok mem4⟩) ?_
  apply Zu (L' := [Zy,Zy,Zy,Zy,Zy,Zy,Zy,Zy,Zy,Zy,Zy,Zy,Zy,Zz,Zz,Zz,Zz]) 12 (⟨H26.ok mem5, H26.ok mem4⟩)
  ·intro wS sS
   refine Zm (Z01 ?_)
   exact Z04 rfl
  apply Zu (L' := [Zy,Zy,Zy,Zy,Zy,Zy,Zy,Zy,Zy,Zy,Zy,Zy,Zy,Zy,Zz,Zz,Zz]) 13 (⟨H26.ok mem5, H26.ok mem4⟩)
  ·intro wS sS
   refine Zx (Z01 ?_)
   exact Z04 rfl
  apply Zu (L' := [Zy,Zy,Zy,Zy,Zy,Zy,Zy,Zy,Zy,Zy,Zy,Zy,Zy,Zy,Zy,Zz,Zz]) 14 (⟨H26.ok mem5, H26.ok mem4⟩)
  ·intro wS sS
   refine Zx (Z01 ?_)
   exact Z04 rfl
  apply Zu (L' := [Zy,Zy,Zy,Zy,Zy,Zy,Zy,Zy,Zy,Zy,Zy,Zy,Zy,Zy,Zy,Zy,Zz]) 15 (⟨H26.ok mem5, H26.ok mem4⟩)
  ·intro wS sS
   refine Zg (Z01 ?_)
   exact Z04 rfl
  apply Zu (L' := [Zy,Zy,Zy,Zy,Zy,Zy,Zy,Zy,Zy,Zy,Zy,Zy,Zy,Zy,Zy,Zy,Zy]) 16 (⟨H26.ok mem5, H26.ok mem4⟩)
  ·intro wS sS
   refine Zg (Z01 ?_)
   exact Z04 rfl
  refine Z0B ZK ?_
  refine Z02 ?_
  refine Zk [8, 11] ?_
  refine Z03 (Z00 (Zm (Zm (Zg (Zg (Zg (Zg (Z01 (Z02 ?_)))))))))
  refine Zk [8, 9, 10, 11] ?_
  refine Z0i ?_
  refine Z0k ?_
  refine Z07 ?_
  refine Z12 results21 (.tmp rfl (.tmp rfl (.tmp rfl (.tmp rfl .nil)))) rfl ?_
  refine ⟨_, rfl, ?_⟩
  have H33 := St.del (.tail (.tail .head)) (St.del (.tail (.tail (.tail .head))) (St.del (.tail (.tail (.tail (.tail .head)))) (St.del (.tail (.tail (.tail (.tail (.tail .head))))) (St.del (.tail (.tail (.tail (.tail (.tail (.tail .head)))))) (St.front1 (St.front1 H26))))))
  exact ⟨_, _, [], _, _, o, L2, rfl, .val hok hc1 hk14.2 hR1 hR2 hR3 hR4 hR5, (H33.nil 5).transS⟩
 refine Z03 (Z00 (Z09 Z6Q rfl rfl rfl ?_))
 refine Z05 H21 mem0 rfl rfl underlying25 rfl rfl rfl ?_
 refine Z4W rfl rfl underlying25 rfl (by first | exact H21.ibl mem0 | exact H21.ibl mem1 | exact H21.ibl mem2 | exact H21.ibl mem3 | exact H21.ikM hv | assumption) ?_
 refine Zw ?_
 refine Zg (Z01 (Z02 ?_))
 refine Zk [7, 46] ?_
 (first | refine Z0c rfl ?_ ?_ | refine Z08 rfl ?_ ?_) <;> intro hc4
 ·refine Z03 (Z00 (Zg (Zg (Zg (Zg (Z01 (Z02 ?_)))))))
  refine Zk [8, 9, 10, 11] ?_
  refine Z0i ?_
  refine Z0k ?_
  refine Z07 ?_
  refine Z12 results21 (.tmp rfl (.tmp rfl (.tmp rfl (.tmp rfl .nil)))) rfl ?_
  refine ⟨_, rfl, ?_⟩
  have H38 := St.del (.tail (.tail .head)) (St.del (.tail (.tail (.tail .head))) (St.del (.tail (.tail (.tail (.tail .head)))) (St.front4 (St.front4 H21))))
  exact ⟨_, _, [], _, _, none, L, rfl, .long hok hc1 (by have h1 := hok.1; omega) ZO, (H38.nil 5).transS⟩
 refine Z0a ?_
 refine Z0F ?_
 refine Z02 ?_
 refine Zk [7] ?_
 refine Z03 (Z00 (Z09 Z6Q rfl rfl rfl ?_))
 refine Z05 H21 mem0 rfl rfl underlying25 rfl rfl rfl ?_
 refine Z0I rfl rfl func34 rfl rfl (.cons rfl .nil) (cloneB _ t hLt w21 (H21.ikM hv)) ?_
 rintro vt w39 ⟨_, rfl, hG⟩
 have H39 := hG _ _ _ _ H21
 simp only [Zca, Zna] at H39
 refine Zg (Zg (Zg (Zg (Z01 (Z02 ?_)))))
 refine Zk [8, 9, 10, 11] ?_
 refine Z0i ?_
 refine Z12 results21 (.tmp rfl (.tmp rfl (.tmp rfl (.tmp rfl .nil)))) rfl ?_
 refine ⟨_, rfl, ?_⟩
 have H45 := St.del (.tail (.tail (.tail .head))) (St.del (.tail (.tail (.tail (.tail .head)))) (St.del (.tail (.tail (.tail (.tail (.tail .head))))) (St.front2 (St.front5 (St.front5 H39)))))
 exact ⟨_, _, t, _, _, none, L, rfl, .text hok hc1 (by have h1 := hok.1; omega) ZO, H45.transS⟩
def NeX (k s : Int) (q : Bool) (t nl : List UInt8) (o : Option Int) : Prop := (okT k s ∧ ¬ nulP q t nl ∧ (k = 9 ∨ k = 10) ∧ Z5H t k o) ∨ (¬ (okT k s ∧ ¬ nulP q t nl ∧ (k = 9 ∨ k = 10)) ∧ o = none)
theorem NeX.read {k s : Int} {q hn : Bool} {t nl : List UInt8} {L L' : Cac} {x e : Int} {lt : List UInt8} {nu : Bool} {o o' : Option Int} (h : NeX k s q t nl o) (h' : RdX k s q hn t nl L x lt nu e o' L') : o = o' ∧ (L'.length = 41 ∨ L' = L) ∧ (CaO L o' L' ∨ L' = L ∧ o' = none) := by
 cases h' with
 | kind h1 => rcases h with ⟨h2, _⟩ | ⟨_, h2⟩; exact absurd h2 h1; exact ⟨h2, .inr rfl, .inr ⟨rfl, rfl⟩⟩
 | null h1 hn1 => rcases h with ⟨_, h2, _⟩ | ⟨_, h2⟩; exact absurd hn1 h2; exact ⟨h2, .inr rfl, .inr ⟨rfl, rfl⟩⟩
 | nonull h1 hn1 => rcases h with ⟨_, h2, _⟩ | ⟨_, h2⟩; exact absurd hn1 h2; exact ⟨h2, .inr rfl, .inr ⟨rfl, rfl⟩⟩
 | val h1 h2 h3 h4 h5 h6 h7 h8 =>
  refine ⟨?_, .inl h8, .inl h7⟩
  rcases h with ⟨_, _, hk, hN⟩ | ⟨hno, ho⟩
  ·exact hN.unique (h5 hk)
  rw [ho, h6 fun hk => hno ⟨h1, h2, hk⟩]
 | long h1 h2 h3 => rcases h with ⟨_, _, hk, _⟩ | ⟨_, h4⟩; omega; exact ⟨h4, .inr rfl, .inr ⟨rfl, rfl⟩⟩
 | text h1 h2 h3 => rcases h with ⟨_, _, hk, _⟩ | ⟨_, h4⟩; omega; exact ⟨h4, .inr rfl, .inr ⟨rfl, rfl⟩⟩
theorem NeedC (cm qu fr to k s : Int) (nl nm : List UInt8) (tr q hn : Bool) (A : Option Addr) (tc : Nat) (t : L8) (hLt : t.length ≤ 1099511627776) (w : World) (hv : IB w (.slice A t.length tc) t) :
  Z0f P 25 [.agg #[.int .u8 cm, .int .u8 qu, str nl, .bool tr], .agg #[str nm, .int .i64 k, .int .i64 s, .bool hn], .agg #[.int .i64 fr, .int .i64 to, .bool q, .slice A t.length tc]] w fun r w' => ∃ o, r = .tuple #[.int .i64 (Z6o o), .bool o.isSome] ∧ NeX k s q t nl o ∧ Grow w w' [] := by
 refine Z0o func25 rfl ntmps25 rfl ?_
 have H0 := St.start w
 refine Z03 (Z00 ?_)
 refine Z57 H0 rfl rfl rfl (fun b0_0 w1 H1 => ?_)
 refine Z57 H1 rfl rfl rfl (fun b0_1 w2 H2 => ?_)
 refine Z57 H2 rfl rfl rfl (fun b0_2 w3 H3 => ?_)
 refine Zg (Zg (Z01 (Z02 ?_)))
 refine Zk [3, 4, 5] ?_
 refine Z03 (Z03 (Z00 (Z09 Z6e rfl rfl rfl ?_)))
 refine Z1b H3 mem1 rfl rfl underlying23 rfl tz23 rfl (.drop (.take (.take .nil))) ?_
 refine Zc func32 (checkT k s w3) ?_
 rintro _ w4 ⟨rfl, hG⟩
 have H4 := hG _ _ _ _ H3
 simp only [Zca, Zna] at H4
 refine Zo ?_
 refine Zm ?_
 apply l_or (q := ¬ k = 9 ∧ ¬ k = 10) 10 [3, 4, 5] rfl rfl (.cons rfl (.cons rfl (.cons rfl (.cons rfl .nil)))) rfl rfl (fun _ => rfl) rfl rfl rfl
 ·intro hg1_5
  refine Z09 Z6e rfl rfl rfl (Z09 Z5p rfl rfl rfl ?_)
  refine Z05 H4 mem1 rfl rfl underlying3 rfl rfl rfl ?_
  refine Zo ?_
  refine Zm ?_
  apply Z47 (q := ¬ k = 10) 4 [3, 4, 5, 12] rfl rfl (.cons rfl (.cons rfl (.cons rfl (.cons rfl (.cons rfl .nil))))) rfl rfl (fun _ => rfl) rfl rfl rfl
  ·intro hg1_10
   refine Z09 Z6e rfl rfl rfl (Z09 Z5p rfl rfl rfl ?_)
   refine Z05 H4 mem1 rfl rfl underlying3 rfl rfl rfl ?_
   refine Zo ?_
   refine Z01 ?_
   exact Z0O rfl (.cons rfl (ZT hg1_10) (.cons rfl rfl (.cons rfl rfl (.cons rfl rfl (.cons rfl rfl .nil)))))
   all_goals infer_instance
  refine Z01 ?_
  exact Z0O rfl (.cons rfl (ZF hg1_5) (.cons rfl rfl (.cons rfl rfl (.cons rfl rfl .nil))))
  all_goals infer_instance
 refine Zm ?_
 apply l_orS H4 (q := q = false ∧ t = nl) 3 [4, 5] rfl rfl (.cons rfl (.cons rfl (.cons rfl .nil))) rfl rfl (fun _ => rfl) rfl rfl rfl
 ·intro hg1_17
  refine Z1b H4 mem2 rfl rfl underlying52 rfl tz52 rfl (.take (.take (.take (.take .nil)))) ?_
  refine Z1b H4 mem0 rfl rfl underlying58 rfl tz58 rfl (.take (.take (.take (.take .nil)))) ?_
  refine Z0I rfl rfl func46 rfl rfl (.cons rfl (.cons rfl .nil)) (isNullF cm qu fr to nl t tr q _ hLt w4 (H4.iarg hv)) ?_
  rintro _ w5 ⟨rfl, hG⟩
  have H5 := hG _ _ _ _ H4
  simp only [Zca, Zna] at H5
  refine Z01 ?_
  exact Z1P H5 rfl (.cons rfl (ZF hg1_17) (.cons rfl rfl (.cons rfl rfl .nil)))
  all_goals infer_instance
 intro w6 H6
 refine Z01 (Z02 ?_)
 refine Zk [4, 5, 28] ?_
 (first | refine Z0c rfl ?_ ?_ | refine Z08 rfl ?_ ?_) <;> intro hc0
 ·refine Z03 (Z00 (Zg (Zg (Z01 (Z02 ?_)))))
  refine Zk [6, 7] ?_
  refine Z0i ?_
  refine Z07 ?_
  refine Z0P results25 rfl rfl ?_
  refine ⟨_, rfl, ?_⟩
  have H9 := St.del .head (St.del (.tail .head) (St.del (.tail (.tail .head)) H6))
  refine ⟨none, rfl, .inr ⟨fun h => ?_, rfl⟩, H9.grows⟩
  rcases hc0 with (h0 | h0) | h0
  ·exact h0 (if_pos h.1)
  ·have := h.2.2
   omega
  exact h.2.1 h0
 refine Z0a (Z02 ?_)
 refine Zk [4, 5] ?_
 refine Z03 (Z00 (Z09 Z6e rfl rfl rfl (Z09 Z5p rfl rfl rfl ?_)))
 refine Z05 H6 mem1 rfl rfl underlying3 rfl rfl rfl ?_
 refine Z09 Z6Q rfl rfl rfl ?_
 refine Z05 H6 mem0 rfl rfl underlying25 rfl rfl rfl ?_
 refine Zc func60 (NeedPP k A tc t hLt w6 (H6.iarg hv)) ?_
 rintro _ w10 ⟨o, rfl, hNe, hG⟩
 have H10 := hG _ _ _ _ H6
 simp only [Zca, Zna] at H10
 refine Zx (Zx (Zg (Zg (Z01 (Z02 ?_)))))
 refine Zk [6, 7] ?_
 refine Z0i ?_
 refine Z0P results25 rfl rfl ?_
 refine ⟨_, rfl, ?_⟩
 have H13 := St.del .head (St.del (.tail .head) (St.del (.tail (.tail .head)) H10))
 have h9 : ¬ (¬ k = 9 ∧ ¬ k = 10) := fun h => hc0 (.inl (.inr h))
 exact ⟨o, rfl, .inl ⟨Classical.not_not.1 fun h => hc0 (.inl (.inl (by rw [if_neg h]; decide))), fun h => hc0 (.inr h), ZO, hNe⟩, H13.grows⟩
end Go.Proofs.YtgjgahmhoflgcaaGreatDoor.W
