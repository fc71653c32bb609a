/- law mintagelaw09: closed texts, kind, wakes -/
import Derived.Test.YtfomhfbmmjhljaaGreatDoorQg
set_option linter.unusedVariables false
set_option linter.unusedSimpArgs false
set_option maxRecDepth 10000
namespace Go.Proofs.YtfomhfbmmjhljaaGreatDoor.W
open Go.Vc Go.RowKit
theorem IB.sl {w : World} {v : Value} {t : L8} (h : IB w v t) : ∃ A c, v = .slice A t.length c ∧ IB w (.slice A t.length c) t := by
 obtain ⟨A, c, e, h2, h3⟩ := h
 rw [show (bys t).length = t.length from by simp [bys]] at e
 exact ⟨A, c, e, A, c, by rw [show (bys t).length = t.length from by simp [bys]], h2, h3⟩
def rnF (d : Kd) (N D b0 : Int) : Int × Bool × Int := if (if upR d.H N D b0 then b0 + 1 else b0) ≤ d.I - 1 then (if upR d.H N D b0 then b0 + 1 else b0, decide (fv d.H b0 * D = N), 0) else (0, false, 34)
theorem rn_of {d : Kd} {N D b0 : Int} (hD : 0 < D) (h0 : 0 ≤ b0) (h1 : fv d.H b0 * D ≤ N) (h2 : N < fv d.H (b0 + 1) * D) : RndR d.H (d.I - 1) N D (rnF d N D b0) := by
 have hI := d.I_lt
 exact RndR.of (by omega) hD (by omega) hI.2.1 h0 h1 h2
theorem Z5a {t : L8} {k bb road place e man x x1 n xx b0 : Int} {d : Kd} {ng more : Bool} {W F : L8} (h : FlR t k bb road place e) (hk : kd k = some d) (hs : scanF t = (ng, 0, man, x1, more, 0, 0)) (hm : ¬ man = 0) (hr : Z4l t = (ng, 0, W, F, x, 0, 0)) (hne : ¬ Z0T (W ++ F) = [])
  (hn : pv (Z0T (W ++ F)) = n) (hxx : x - F.length = xx) (hb : 0 ≤ b0 ∧ fv d.H b0 * 10 ^ (-xx).toNat ≤ n * 10 ^ xx.toNat * 2 ^ d.l ∧ n * 10 ^ xx.toNat * 2 ^ d.l < fv d.H (b0 + 1) * 10 ^ (-xx).toNat) {res : Int × Bool × Int} (hres : rnF d (n * 10 ^ xx.toNat * 2 ^ d.l) (10 ^ (-xx).toNat) b0 = res) :
  bb = (if res.2.2 = 0 then sgF d ng res.1 else 0) ∧ road = Z58 d k man x1 more ∧ place = 0 ∧ e = (if res.2.2 = 0 then 0 else 90) := by
 cases h with
 | kind h2 => rw [hk] at h2; cases h2
 | err h2 hsc he => obtain ⟨_, _, _, _, _, _, h3⟩ := Z4V hsc hs; exact absurd h3 he
 | word h2 hsc hw =>
  obtain ⟨_, rfl, rfl, _⟩ := Z4V hsc hs
  unfold wdP at hw
  omega
 | num h2 hsc H2 hx ht =>
  obtain ⟨rfl, rfl, rfl, rfl, rfl, rfl, _⟩ := Z4V hsc hs
  rw [hk] at h2; cases h2
  have hro := readF_ok t
  rw [hr] at hro
  obtain ⟨rfl, rfl, _⟩ := hx.unique (ExR.num hro hne)
  rw [hn, hxx] at ht
  have h3 : fltT d n xx res := by rw [← hres]; exact rn_of (Ma.pow_pos ZO _) hb.1 hb.2.1 hb.2.2
  rw [ht.unique h3]
  exact ⟨rfl, rfl, rfl, rfl⟩
def Sgn (z : L8) (neg : Bool) : Prop := (z = [] ∧ neg = false) ∨ (z = [43] ∧ neg = false) ∨ (z = [45] ∧ neg = true)
theorem dig_nosgn : ∀ c : UInt8, isd c = true → sgn c = false := all8 (by decide +kernel)
theorem run_app {W R : L8} (hW : ∀ c ∈ W, isD c) (hR : R = [] ∨ isd (R.getD 0 0) = false) : run (W ++ R) = W.length := by
 refine run_is _ _ (fun j hj => ?_) (by simp) (fun h => ?_)
 ·have : (W ++ R).getD j 0 = W.getD j 0 := by simp [List.getD, List.getElem?_append_left hj]
  rw [this]; exact hW _ (Z3E hj)
 have e : (W ++ R).getD W.length 0 = R.getD 0 0 := by
  unfold List.getD
  rw [List.getElem?_append_right (Nat.le_refl _), Nat.sub_self]
 rw [e, Z2t]
 rcases hR with rfl | hR
 ·simp at h
 rw [hR]; decide
theorem sg_app {z r : L8} {neg : Bool} (hz : Sgn z neg) (hr : r = [] ∨ sgn (r.getD 0 0) = false) : sg (z ++ r) 0 = z.length ∧ ngb (z ++ r) = neg := by
 rcases hz with ⟨rfl, rfl⟩ | ⟨rfl, rfl⟩ | ⟨rfl, rfl⟩
 ·have h1 : ¬ (0 < r.length ∧ sgP r 0) := fun h => by
   rcases hr with rfl | hr
   ·simp at h
   have := (Z4a r 0).1 h.2; rw [hr] at this; cases this
  refine ⟨sg_no h1, ?_⟩
  unfold ngb
  rw [decide_eq_false_iff_not]
  intro e
  rcases hr with rfl | hr
  ·simp at e
  have e2 : r.getD 0 0 = 45 := (Z2F (d := 45)).1 e
  simp only [List.nil_append] at e
  rw [e2] at hr
  cases hr
 ·refine ⟨Z37 (by simp) (.inl rfl), ?_⟩
  show decide (((43 : UInt8).toNat : Int) = 45) = false
  decide
 refine ⟨Z37 (by simp) (.inr rfl), ?_⟩
 show decide (((45 : UInt8).toNat : Int) = 45) = true
 decide
structure Form (s : L8) (neg : Bool) (W F : L8) (x : Int) : Prop where
 ex : ∃ z pt ex : L8, Sgn z neg ∧ (∀ c ∈ W, isD c) ∧ (∀ c ∈ F, isD c) ∧ (W ≠ [] ∨ F ≠ []) ∧ ((pt = [] ∧ F = []) ∨ pt = [46]) ∧
  ((ex = [] ∧ x = 0) ∨ ∃ (c : UInt8) (zE E : L8) (en : Bool), ex = c :: (zE ++ E) ∧ (c = 101 ∨ c = 69) ∧ Sgn zE en ∧ (∀ d ∈ E, isD d) ∧ E ≠ [] ∧ x = expS en E) ∧ s = z ++ (W ++ (pt ++ (F ++ ex)))
theorem ne_getD {W R : L8} (h : W ≠ []) : (W ++ R).getD 0 0 = W.getD 0 0 := by
 cases W with
 | nil => exact absurd rfl h
 | cons c W => rfl
theorem Form.rc {s : L8} {neg : Bool} {W F : L8} {x : Int} (h : Form s neg W F x) : ∃ en E, RC s neg 0 W F en E true ∧ x = expS en E := by
 obtain ⟨z, pt, ex, hz, hW, hF, hne, hpt, hex, rfl⟩ := h.ex
 have hex0 : ex = [] ∨ (isd (ex.getD 0 0) = false ∧ ¬ ex.getD 0 0 = 46) := by
  rcases hex with ⟨rfl, _⟩ | ⟨c, zE, E, en, rfl, hc, _⟩
  ·exact .inl rfl
  right
  rcases hc with rfl | rfl
  ·exact ⟨show isd (101 : UInt8) = false from by decide, show ¬ (101 : UInt8) = 46 from by decide⟩
  exact ⟨show isd (69 : UInt8) = false from by decide, show ¬ (69 : UInt8) = 46 from by decide⟩
 -- what follows the digits ahead
 have hR0 : pt ++ (F ++ ex) = [] ∨ isd ((pt ++ (F ++ ex)).getD 0 0) = false := by
  rcases hpt with ⟨rfl, rfl⟩ | rfl
  ·rcases hex0 with h | h
   ·exact .inl (by simp [h])
   exact .inr (by simpa using h.1)
  exact .inr (show isd (46 : UInt8) = false from by decide)
 have hrunW := run_app hW hR0
 -- the first byte behind the sign
 have hb0 : isd ((W ++ (pt ++ (F ++ ex))).getD 0 0) = true ∨ (W ++ (pt ++ (F ++ ex))).getD 0 0 = 46 := by
  by_cases hw : W = []
  ·subst hw
   rcases hpt with ⟨_, hf⟩ | rfl
   ·rcases hne with h | h
    ·exact absurd rfl h
    exact absurd hf h
   exact .inr rfl
  rw [ne_getD hw]
  exact .inl ((Z2t _).1 (hW _ (Z3E (List.length_pos_iff.2 hw))))
 have hns : sgn ((W ++ (pt ++ (F ++ ex))).getD 0 0) = false := by
  rcases hb0 with h | h
  ·exact dig_nosgn _ h
  rw [h]; decide
 obtain ⟨hsg, hng⟩ := sg_app hz (.inr hns)
 have eb : W ++ (pt ++ (F ++ ex)) = (z ++ (W ++ (pt ++ (F ++ ex)))).drop (sg (z ++ (W ++ (pt ++ (F ++ ex)))) 0) := by rw [hsg, List.drop_left]
 have hword : ¬ Z4c (W ++ (pt ++ (F ++ ex))) := fun h => by
  rw [word_iff] at h
  have := Z51 (b := W ++ (pt ++ (F ++ ex))) (.inr hb0)
  omega
 have htk : (W ++ (pt ++ (F ++ ex))).take (run (W ++ (pt ++ (F ++ ex)))) = W := by rw [hrunW, List.take_left]
 have hdr : (W ++ (pt ++ (F ++ ex))).drop (run (W ++ (pt ++ (F ++ ex)))) = pt ++ (F ++ ex) := by rw [hrunW, List.drop_left]
 have hfs : Fs ((W ++ (pt ++ (F ++ ex))).drop (run (W ++ (pt ++ (F ++ ex))))) F ex := by
  rw [hdr]
  rcases hpt with ⟨rfl, rfl⟩ | rfl
  ·simp only [List.nil_append]
   exact .no (hex0.imp id fun h => h.2)
  have h1 := Fs.yes (R := [46] ++ (F ++ ex)) (by simp) rfl
  have h2 : ([46] ++ (F ++ ex)).drop 1 = F ++ ex := rfl
  have hrunF := run_app hF (hex0.imp id fun h => h.1)
  rw [h2, hrunF, List.take_left, List.drop_left] at h1
  exact h1
 have hzz : ¬ ((W ++ (pt ++ (F ++ ex))).take (run (W ++ (pt ++ (F ++ ex)))) = [] ∧ F = []) := by
  rw [htk]
  rintro ⟨h1, h2⟩
  rcases hne with h | h
  ·exact h h1
  exact h h2
 rcases hex with ⟨rfl, rfl⟩ | ⟨c, zE, E, en, rfl, hc, hzE, hE, hE0, rfl⟩
 ·refine ⟨false, [], ?_, rfl⟩
  have := RC.plain eb hword hfs hzz rfl
  rw [hng, htk] at this
  exact this
 have hEs : E = [] ∨ sgn (E.getD 0 0) = false := .inr (dig_nosgn _ ((Z2t _).1 (hE _ (Z3E (List.length_pos_iff.2 hE0)))))
 obtain ⟨hs1, hn1⟩ := sg_app hzE hEs
 have hd1 : (c :: (zE ++ E)).drop 1 = zE ++ E := rfl
 have hrunE : run E = E.length := by have := run_app hE (R := []) (.inl rfl); rwa [List.append_nil] at this
 have := RC.exp (E := E) eb hword hfs hzz (by simp) hc (by rw [hd1, hs1, List.drop_left])
 rw [hng, htk, hd1, hn1, hrunE, List.take_length, List.drop_length, decide_eq_true ⟨hE0, rfl⟩] at this
 exact ⟨en, E, this, rfl⟩
theorem Form.read {s : L8} {neg : Bool} {W F : L8} {x : Int} (h : Form s neg W F x) (hl : s.length ≤ 1024) : Z1N s neg 0 W F x 0 0 := by
 obtain ⟨en, E, hc, rfl⟩ := h.rc
 obtain ⟨ng', hr, hng⟩ := hc.read hl
 have : neg = ng' := by rw [hng]; cases ng' <;> rfl
 rw [this]
 exact hr
def numG (neg : Bool) (L : L8) (fl : Nat) (x : Int) : Bool × Int × Int × Int × Bool × Int × Int :=
 if L = [] then (neg, 0, 0, 0, false, 0, 0) else (neg, 0, pv (L.take (L.length - (L.length - 19))), x - fl + ((L.length - 19 : Nat) : Int), (L.drop (L.length - (L.length - 19))).any (fun c => !decide (c = 48)), 0, 0)
theorem Z1k.form {t : L8} {ng more neg : Bool} {wd man x p e x0 : Int} {W F : L8} (h : Z1k t ng wd man x more p e) (hf : Form t neg W F x0) (hl : t.length ≤ 1024) : (ng, wd, man, x, more, p, e) = numG neg (Z0T (W ++ F)) F.length x0 := by
 have hr := hf.read hl
 unfold numG
 cases h with
 | err hr2 he => obtain ⟨_, _, _, _, _, _, h⟩ := hr2.unique hr; exact absurd h he
 | nil hr2 hn =>
  obtain ⟨rfl, rfl, rfl, rfl, rfl, _⟩ := hr2.unique hr
  rcases hn with h | h
  ·exact absurd rfl h
  rw [if_pos h]
  congr 1
  simp
 | num hr2 hne hn =>
  obtain ⟨rfl, _, rfl, rfl, rfl, _⟩ := hr2.unique hr
  rw [if_neg hne, ← hn]
theorem ExR.form {t : L8} {neg : Bool} {n x e x0 : Int} {W F : L8} (h : ExR t n x e) (hf : Form t neg W F x0) (hl : t.length ≤ 1024) (h0 : Z0T (W ++ F) ≠ []) : n = pv (Z0T (W ++ F)) ∧ x = x0 - F.length ∧ e = 0 := by
 have := ExR.num (hf.read hl) h0
 exact h.unique this
theorem bys_snoc (l : L8) (c : UInt8) : bys l ++ [.int .u8 (c.toNat : Int)] = bys (l ++ [c]) := by simp [bys]
end Go.Proofs.YtfomhfbmmjhljaaGreatDoor.W
