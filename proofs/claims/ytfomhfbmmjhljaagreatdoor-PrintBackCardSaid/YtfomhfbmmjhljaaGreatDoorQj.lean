/- law mintagelaw09: closed texts, kind, wakes -/
import Derived.Test.YtfomhfbmmjhljaaGreatDoorQg
set_option linter.unusedVariables false
set_option linter.unusedSimpArgs false
set_option maxRecDepth 10000
namespace Go.Proofs.YtfomhfbmmjhljaaGreatDoor.W
open Go.Vc Go.RowKit
theorem IB.sl {w : World} {v : Value} {t : L8} (h : IB w v t) : ∃ A c, v = .slice A t.length c ∧ IB w (.slice A t.length c) t := by
 obtain ⟨A, c, e, h2, h3⟩ := h
 rw [show (bys t).length = t.length from by simp [bys]] at e
 exact ⟨A, c, e, A, c, by rw [show (bys t).length = t.length from by simp [bys]], h2, h3⟩
theorem fl_wd {t : L8} {k bb road place e wd man x : Int} {d : Kd} {ng more : Bool} (h : FlR t k bb road place e) (hk : kd k = some d) (hs : scanF t = (ng, wd, man, x, more, 0, 0)) (hw : wdP wd man) : bb = spF d ng wd ∧ road = 1 ∧ place = 0 ∧ e = 0 := by
 cases h with
 | kind h2 => rw [hk] at h2; cases h2
 | err h2 hsc he => obtain ⟨_, _, _, _, _, _, h3⟩ := Z4V hsc hs; exact absurd h3 he
 | word h2 hsc _ =>
  obtain ⟨rfl, rfl, _⟩ := Z4V hsc hs
  rw [hk] at h2; cases h2
  exact ⟨rfl, rfl, rfl, rfl⟩
 | num h2 hsc H2 _ _ =>
  obtain ⟨_, rfl, rfl, _⟩ := Z4V hsc hs
  exact absurd hw H2
def Sgn (z : L8) (neg : Bool) : Prop := (z = [] ∧ neg = false) ∨ (z = [43] ∧ neg = false) ∨ (z = [45] ∧ neg = true)
theorem dig_nosgn : ∀ c : UInt8, isd c = true → sgn c = false := all8 (by decide +kernel)
theorem run_app {W R : L8} (hW : ∀ c ∈ W, isD c) (hR : R = [] ∨ isd (R.getD 0 0) = false) : run (W ++ R) = W.length := by
 refine run_is _ _ (fun j hj => ?_) (by simp) (fun h => ?_)
 ·have : (W ++ R).getD j 0 = W.getD j 0 := by simp [List.getD, List.getElem?_append_left hj]
  rw [this]; exact hW _ (Z3E hj)
 have e : (W ++ R).getD W.length 0 = R.getD 0 0 := by
  unfold List.getD
  rw [List.getElem?_append_right (Nat.le_refl _), Nat.sub_self]
 rw [e, Z2t]
 rcases hR with rfl | hR
 ·simp at h
 rw [hR]; decide
theorem sg_app {z r : L8} {neg : Bool} (hz : Sgn z neg) (hr : r = [] ∨ sgn (r.getD 0 0) = false) : sg (z ++ r) 0 = z.length ∧ ngb (z ++ r) = neg := by
 rcases hz with ⟨rfl, rfl⟩ | ⟨rfl, rfl⟩ | ⟨rfl, rfl⟩
 ·have h1 : ¬ (0 < r.length ∧ sgP r 0) := fun h => by
   rcases hr with rfl | hr
   ·simp at h
   have := (Z4a r 0).1 h.2; rw [hr] at this; cases this
  refine ⟨sg_no h1, ?_⟩
  unfold ngb
  rw [decide_eq_false_iff_not]
  intro e
  rcases hr with rfl | hr
  ·simp at e
  have e2 : r.getD 0 0 = 45 := (Z2F (d := 45)).1 e
  simp only [List.nil_append] at e
  rw [e2] at hr
  cases hr
 ·refine ⟨Z37 (by simp) (.inl rfl), ?_⟩
  show decide (((43 : UInt8).toNat : Int) = 45) = false
  decide
 refine ⟨Z37 (by simp) (.inr rfl), ?_⟩
 show decide (((45 : UInt8).toNat : Int) = 45) = true
 decide
structure Form (s : L8) (neg : Bool) (W F : L8) (x : Int) : Prop where
 ex : ∃ z pt ex : L8, Sgn z neg ∧ (∀ c ∈ W, isD c) ∧ (∀ c ∈ F, isD c) ∧ (W ≠ [] ∨ F ≠ []) ∧ ((pt = [] ∧ F = []) ∨ pt = [46]) ∧
  ((ex = [] ∧ x = 0) ∨ ∃ (c : UInt8) (zE E : L8) (en : Bool), ex = c :: (zE ++ E) ∧ (c = 101 ∨ c = 69) ∧ Sgn zE en ∧ (∀ d ∈ E, isD d) ∧ E ≠ [] ∧ x = expS en E) ∧ s = z ++ (W ++ (pt ++ (F ++ ex)))
theorem ne_getD {W R : L8} (h : W ≠ []) : (W ++ R).getD 0 0 = W.getD 0 0 := by
 cases W with
 | nil => exact absurd rfl h
 | cons c W => rfl
theorem Form.rc {s : L8} {neg : Bool} {W F : L8} {x : Int} (h : Form s neg W F x) : ∃ en E, RC s neg 0 W F en E true ∧ x = expS en E := by
 obtain ⟨z, pt, ex, hz, hW, hF, hne, hpt, hex, rfl⟩ := h.ex
 have hex0 : ex = [] ∨ (isd (ex.getD 0 0) = false ∧ ¬ ex.getD 0 0 = 46) := by
  rcases hex with ⟨rfl, _⟩ | ⟨c, zE, E, en, rfl, hc, _⟩
  ·exact .inl rfl
  right
  rcases hc with rfl | rfl
  ·exact ⟨show isd (101 : UInt8) = false from by decide, show ¬ (101 : UInt8) = 46 from by decide⟩
  exact ⟨show isd (69 : UInt8) = false from by decide, show ¬ (69 : UInt8) = 46 from by decide⟩
 -- what follows the digits ahead
 have hR0 : pt ++ (F ++ ex) = [] ∨ isd ((pt ++ (F ++ ex)).getD 0 0) = false := by
  rcases hpt with ⟨rfl, rfl⟩ | rfl
  ·rcases hex0 with h | h
   ·exact .inl (by simp [h])
   exact .inr (by simpa using h.1)
  exact .inr (show isd (46 : UInt8) = false from by decide)
 have hrunW := run_app hW hR0
 -- the first byte behind the sign
 have hb0 : isd ((W ++ (pt ++ (F ++ ex))).getD 0 0) = true ∨ (W ++ (pt ++ (F ++ ex))).getD 0 0 = 46 := by
  by_cases hw : W = []
  ·subst hw
   rcases hpt with ⟨_, hf⟩ | rfl
   ·rcases hne with h | h
    ·exact absurd rfl h
    exact absurd hf h
   exact .inr rfl
  rw [ne_getD hw]
  exact .inl ((Z2t _).1 (hW _ (Z3E (List.length_pos_iff.2 hw))))
 have hns : sgn ((W ++ (pt ++ (F ++ ex))).getD 0 0) = false := by
  rcases hb0 with h | h
  ·exact dig_nosgn _ h
  rw [h]; decide
 obtain ⟨hsg, hng⟩ := sg_app hz (.inr hns)
 have eb : W ++ (pt ++ (F ++ ex)) = (z ++ (W ++ (pt ++ (F ++ ex)))).drop (sg (z ++ (W ++ (pt ++ (F ++ ex)))) 0) := by rw [hsg, List.drop_left]
 have hword : ¬ Z4c (W ++ (pt ++ (F ++ ex))) := fun h => by
  rw [word_iff] at h
  have := Z51 (b := W ++ (pt ++ (F ++ ex))) (.inr hb0)
  omega
 have htk : (W ++ (pt ++ (F ++ ex))).take (run (W ++ (pt ++ (F ++ ex)))) = W := by rw [hrunW, List.take_left]
 have hdr : (W ++ (pt ++ (F ++ ex))).drop (run (W ++ (pt ++ (F ++ ex)))) = pt ++ (F ++ ex) := by rw [hrunW, List.drop_left]
 have hfs : Fs ((W ++ (pt ++ (F ++ ex))).drop (run (W ++ (pt ++ (F ++ ex))))) F ex := by
  rw [hdr]
  rcases hpt with ⟨rfl, rfl⟩ | rfl
  ·simp only [List.nil_append]
   exact .no (hex0.imp id fun h => h.2)
  have h1 := Fs.yes (R := [46] ++ (F ++ ex)) (by simp) rfl
  have h2 : ([46] ++ (F ++ ex)).drop 1 = F ++ ex := rfl
  have hrunF := run_app hF (hex0.imp id fun h => h.1)
  rw [h2, hrunF, List.take_left, List.drop_left] at h1
  exact h1
 have hzz : ¬ ((W ++ (pt ++ (F ++ ex))).take (run (W ++ (pt ++ (F ++ ex)))) = [] ∧ F = []) := by
  rw [htk]
  rintro ⟨h1, h2⟩
  rcases hne with h | h
  ·exact h h1
  exact h h2
 rcases hex with ⟨rfl, rfl⟩ | ⟨c, zE, E, en, rfl, hc, hzE, hE, hE0, rfl⟩
 ·refine ⟨false, [], ?_, rfl⟩
  have := RC.plain eb hword hfs hzz rfl
  rw [hng, htk] at this
  exact this
 have hEs : E = [] ∨ sgn (E.getD 0 0) = false := .inr (dig_nosgn _ ((Z2t _).1 (hE _ (Z3E (List.length_pos_iff.2 hE0)))))
 obtain ⟨hs1, hn1⟩ := sg_app hzE hEs
 have hd1 : (c :: (zE ++ E)).drop 1 = zE ++ E := rfl
 have hrunE : run E = E.length := by have := run_app hE (R := []) (.inl rfl); rwa [List.append_nil] at this
 have := RC.exp (E := E) eb hword hfs hzz (by simp) hc (by rw [hd1, hs1, List.drop_left])
 rw [hng, htk, hd1, hn1, hrunE, List.take_length, List.drop_length, decide_eq_true ⟨hE0, rfl⟩] at this
 exact ⟨en, E, this, rfl⟩
theorem Form.read {s : L8} {neg : Bool} {W F : L8} {x : Int} (h : Form s neg W F x) (hl : s.length ≤ 1024) : Z1N s neg 0 W F x 0 0 := by
 obtain ⟨en, E, hc, rfl⟩ := h.rc
 obtain ⟨ng', hr, hng⟩ := hc.read hl
 have : neg = ng' := by rw [hng]; cases ng' <;> rfl
 rw [this]
 exact hr
def numG (neg : Bool) (L : L8) (fl : Nat) (x : Int) : Bool × Int × Int × Int × Bool × Int × Int :=
 if L = [] then (neg, 0, 0, 0, false, 0, 0) else (neg, 0, pv (L.take (L.length - (L.length - 19))), x - fl + ((L.length - 19 : Nat) : Int), (L.drop (L.length - (L.length - 19))).any (fun c => !decide (c = 48)), 0, 0)
theorem Z1k.form {t : L8} {ng more neg : Bool} {wd man x p e x0 : Int} {W F : L8} (h : Z1k t ng wd man x more p e) (hf : Form t neg W F x0) (hl : t.length ≤ 1024) : (ng, wd, man, x, more, p, e) = numG neg (Z0T (W ++ F)) F.length x0 := by
 have hr := hf.read hl
 unfold numG
 cases h with
 | err hr2 he => obtain ⟨_, _, _, _, _, _, h⟩ := hr2.unique hr; exact absurd h he
 | nil hr2 hn =>
  obtain ⟨rfl, rfl, rfl, rfl, rfl, _⟩ := hr2.unique hr
  rcases hn with h | h
  ·exact absurd rfl h
  rw [if_pos h]
  congr 1
  simp
 | num hr2 hne hn =>
  obtain ⟨rfl, _, rfl, rfl, rfl, _⟩ := hr2.unique hr
  rw [if_neg hne, ← hn]
theorem expo_pv : ∀ (n : Nat) (l : L8), l.length = n → (∀ x ∈ l, isD x) → expo l = min (pv l) 99999
 | 0, l, h, _ => by
  obtain rfl := List.eq_nil_of_length_eq_zero h
  decide
 | n + 1, l, h, hd => by
  have hne : l ≠ [] := by intro e; subst e; simp at h
  have e := List.dropLast_concat_getLast hne
  have hd' : ∀ x ∈ l.dropLast, isD x := fun x hx => hd x ((List.dropLast_sublist l).subset hx)
  have ih := expo_pv n l.dropLast (by simp [h]) hd'
  have hb := (Z18 n l.dropLast (by simp [h]) hd').1
  have hl := (hd _ (List.getLast_mem hne)).le
  rw [← e, Z36, Z2M, ih]
  omega
theorem dig_isD {r : Int} (h : 0 ≤ r ∧ r ≤ 9) : isD (dig r) := by
 have := Z2r h
 unfold isD
 omega
theorem dt0_fact : ∀ (m n : Nat), n ≤ m → (∀ x ∈ dt0 n, isD x) ∧ pv (dt0 n) = n ∧ (dt0 n).length ≤ n
 | m, 0, _ => by rw [Z1w]; simp [pv]
 | 0, n + 1, h => by omega
 | m + 1, n + 1, h => by
  have ih := dt0_fact m ((n + 1) / 10) ZO
  rw [dt0, dif_neg ZO]
  have hd := Z2r (r := (((n + 1) % 10 : Nat) : Int)) ZO
  refine ⟨fun x hx => ?_, ?_, ?_⟩
  ·rcases List.mem_append.1 hx with h1 | h1
   ·exact ih.1 x h1
   rw [List.mem_singleton.1 h1]; exact dig_isD ZO
  ·rw [Z2M, ih.2.1, hd]; omega
  rw [List.length_append]; have := ih.2.2; simp only [List.length_singleton]; omega
theorem Z2T {n : Int} (h : 0 ≤ n) : (∀ x ∈ dtx n, isD x) ∧ pv (dtx n) = n ∧ dtx n ≠ [] ∧ (dtx n).length ≤ n.toNat + 1 := by
 unfold dtx
 split
 ·rename_i e
  subst e
  exact ⟨fun x hx => by rw [List.mem_singleton.1 hx]; decide, by decide, by simp, by simp⟩
 have := dt0_fact n.toNat n.toNat (Nat.le_refl _)
 exact ⟨this.1, by rw [this.2.1]; omega, dt0_ne ZO, ZO⟩
theorem dt0_lt : ∀ (k n : Nat), n < 10 ^ k → (dt0 n).length ≤ k
 | 0, n, h => by
  obtain rfl : n = 0 := by simpa using h
  rw [Z1w]; simp
 | k + 1, n, h => by
  by_cases h0 : n = 0
  ·rw [h0, Z1w]; simp
  rw [dt0, dif_neg h0, List.length_append]
  have := dt0_lt k (n / 10) (by rw [Nat.pow_succ] at h; omega)
  simp only [List.length_singleton]
  omega
theorem dtx_lt {n : Int} (h : 0 ≤ n ∧ n < 100000) : (dtx n).length ≤ 5 := by
 unfold dtx
 split
 ·simp
 exact dt0_lt 5 n.toNat ZO
theorem ExR.form {t : L8} {neg : Bool} {n x e x0 : Int} {W F : L8} (h : ExR t n x e) (hf : Form t neg W F x0) (hl : t.length ≤ 1024) (h0 : Z0T (W ++ F) ≠ []) : n = pv (Z0T (W ++ F)) ∧ x = x0 - F.length ∧ e = 0 := by
 have := ExR.num (hf.read hl) h0
 exact h.unique this
theorem bys_snoc (l : L8) (c : UInt8) : bys l ++ [.int .u8 (c.toNat : Int)] = bys (l ++ [c]) := by simp [bys]
theorem Z4w : ∀ l : L8, pv (Z0T l) = pv l
 | [] => rfl
 | c :: l => by
  simp only [Z0T]
  split
  ·rename_i h
   rw [Z4w l]
   have h2 := Z1e [c] l.length l rfl
   rw [show c = 48 by simpa using h] at h2 ⊢
   rw [show pv [48] = 0 from by decide, Int.zero_mul, Int.zero_add] at h2
   exact h2.symm
  rfl
theorem flt_zero (d : Kd) (x : Int) : fltT d 0 x (0, true, 0) := by
 have hI := d.I_lt
 have hp := Ma.pow_pos (show (0 : Int) < 10 by omega) (-x).toNat
 have h1 : fv d.H 0 = 0 := Z3l ZO
 have h3 := Z3j (H := d.H) (b := 0) ZO ZO
 have h5 : 0 < fv d.H (0 + 1) * 10 ^ (-x).toNat := Int.mul_pos ZO hp
 have h := RndR.of (H := d.H) (G := d.I - 1) (N := 0 * 10 ^ x.toNat * 2 ^ d.l) (D := 10 ^ (-x).toNat) (b0 := 0) ZO hp ZO hI.2.1 ZO (by rw [h1]; simp) (by rw [Int.zero_mul, Int.zero_mul]; exact h5)
 have hu : ¬ upR d.H (0 * 10 ^ x.toNat * 2 ^ d.l) (10 ^ (-x).toNat) 0 := by
  unfold upR
  rw [h1, Int.zero_mul, Int.zero_mul, Int.zero_add]
  omega
 rw [if_neg hu, if_pos ZO, h1, decide_eq_true (show (0 : Int) * 10 ^ (-x).toNat = 0 * 10 ^ x.toNat * 2 ^ d.l by simp)] at h
 exact h
theorem flt_scale {d : Kd} {m n x xx : Int} {q : Nat} {tt : Int × Bool × Int} (hx : x = xx + q) (hn : n = m * 10 ^ q) (ht : fltT d m x tt) : fltT d n xx tt := by
 unfold fltT at ht ⊢
 refine ht.frac (Ma.pow_pos ZO _) (Ma.pow_pos ZO _) ?_
 have hex : (10 : Int) ^ x.toNat * 10 ^ (-xx).toNat = 10 ^ q * 10 ^ xx.toNat * 10 ^ (-x).toNat := by
  rw [← Int.pow_add, ← Int.pow_add, ← Int.pow_add]
  congr 1
  omega
 rw [hn]
 generalize (10 : Int) ^ x.toNat = b at *
 generalize (10 : Int) ^ (-xx).toNat = c at *
 generalize (10 : Int) ^ xx.toNat = e' at *
 generalize (10 : Int) ^ (-x).toNat = a at *
 generalize (10 : Int) ^ q = qq at *
 generalize (2 : Int) ^ d.l = l at *
 have z1 : m * b * l * c = m * (b * c) * l := by simp only [Int.mul_assoc, Int.mul_left_comm, Int.mul_comm]
 rw [z1, hex]
 simp only [Int.mul_assoc, Int.mul_left_comm, Int.mul_comm]
end Go.Proofs.YtfomhfbmmjhljaaGreatDoor.W
