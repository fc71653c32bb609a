/- the scanner as a function; walks of wakes, ScanReads -/
import Derived.Test.YtfomhfbmmjhljaaGreatDoorSf
import Derived.Test.YtfomhfbmmjhljaaGreatDoorLp
import Derived.Test.YtfomhfbmmjhljaaGreatDoorVr
set_option linter.unusedVariables false
set_option linter.unusedSimpArgs false
set_option maxRecDepth 10000
namespace Go.Proofs.YtfomhfbmmjhljaaGreatDoor.W
open Go.Vc Go.RowKit
def cutF (t : L8) : Bool × Int × L8 × L8 × Int × Int × Bool :=
 if 0 < like (t.drop (sg t 0)) infw then (ngb t, 1, [], [], 0, (sg t 0 : Int) + (like (t.drop (sg t 0)) infw : Int), decide ((sg t 0 : Int) + (like (t.drop (sg t 0)) infw : Int) = (t.length : Int) ∧ ((like (t.drop (sg t 0)) infw : Int) = 3 ∨ (like (t.drop (sg t 0)) infw : Int) = 8)))
 else if 0 < like (t.drop (sg t 0)) nanw then (ngb t, 2, [], [], 0, (sg t 0 : Int) + (like (t.drop (sg t 0)) nanw : Int), decide ((sg t 0 : Int) + (like (t.drop (sg t 0)) nanw : Int) = (t.length : Int) ∧ (like (t.drop (sg t 0)) nanw : Int) = 3))
 else
  let a1 := sg t 0 + run (t.drop (sg t 0))
  let p := a1 < t.length ∧ ((t.getD a1 0).toNat : Int) = 46
  let F := if p then (t.take (a1 + 1 + run (t.drop (a1 + 1)))).drop (a1 + 1) else []
  let a := if p then a1 + 1 + run (t.drop (a1 + 1)) else a1
  let W := (t.take a1).drop (sg t 0)
  if W.length + F.length = 0 then (ngb t, 0, W, F, 0, (a : Int), false)
  else if a < t.length ∧ ((t.getD a 0 ||| 32).toNat : Int) = 101 then
   let a4 := sg t (a + 1)
   let j := run (t.drop a4)
   if j = 0 then (ngb t, 0, W, F, 0, (a4 : Int), false)
   else (ngb t, 0, W, F, (if ((t.getD (a + 1) 0).toNat : Int) = 45 then 0 - expo ((t.drop a4).take j) else expo ((t.drop a4).take j)), ((a4 + j : Nat) : Int), decide (((a4 + j : Nat) : Int) = (t.length : Int)))
  else (ngb t, 0, W, F, 0, (a : Int), decide ((a : Int) = (t.length : Int)))
theorem cutF_ok (t : L8) : CutR t (cutF t).1 (cutF t).2.1 (cutF t).2.2.1 (cutF t).2.2.2.1 (cutF t).2.2.2.2.1 (cutF t).2.2.2.2.2.1 (cutF t).2.2.2.2.2.2 := by
 unfold cutF
 by_cases h1 : 0 < like (t.drop (sg t 0)) infw
 ·rw [if_pos h1]; exact .inf h1
 rw [if_neg h1]
 by_cases h2 : 0 < like (t.drop (sg t 0)) nanw
 ·rw [if_pos h2]; exact .nan ZO h2
 rw [if_neg h2]
 simp only []
 have hfr : ∃ F a, Fr t (sg t 0 + run (t.drop (sg t 0))) F a ∧ F = (if sg t 0 + run (t.drop (sg t 0)) < t.length ∧ ((t.getD (sg t 0 + run (t.drop (sg t 0))) 0).toNat : Int) = 46 then (t.take (sg t 0 + run (t.drop (sg t 0)) + 1 + run (t.drop (sg t 0 + run (t.drop (sg t 0)) + 1)))).drop (sg t 0 + run (t.drop (sg t 0)) + 1) else []) ∧
   a = (if sg t 0 + run (t.drop (sg t 0)) < t.length ∧ ((t.getD (sg t 0 + run (t.drop (sg t 0))) 0).toNat : Int) = 46 then sg t 0 + run (t.drop (sg t 0)) + 1 + run (t.drop (sg t 0 + run (t.drop (sg t 0)) + 1)) else sg t 0 + run (t.drop (sg t 0))) := by
  by_cases h : sg t 0 + run (t.drop (sg t 0)) < t.length ∧ ((t.getD (sg t 0 + run (t.drop (sg t 0))) 0).toNat : Int) = 46
  ·rw [if_pos h, if_pos h]; exact ⟨_, _, .yes h.1 h.2, rfl, rfl⟩
  rw [if_neg h, if_neg h]; exact ⟨_, _, .no (fun h3 h4 => h ⟨h3, h4⟩), rfl, rfl⟩
 obtain ⟨F, a, hf, eF, ea⟩ := hfr
 rw [← eF, ← ea]
 by_cases h3 : ((t.take (sg t 0 + run (t.drop (sg t 0)))).drop (sg t 0)).length + F.length = 0
 ·rw [if_pos h3]; exact .none ZO ZO rfl hf h3
 rw [if_neg h3]
 have hz : 0 < ((t.take (sg t 0 + run (t.drop (sg t 0)))).drop (sg t 0)).length + F.length := by omega
 by_cases h4 : a < t.length ∧ ((t.getD a 0 ||| 32).toNat : Int) = 101
 ·rw [if_pos h4]
  by_cases h5 : run (t.drop (sg t (a + 1))) = 0
  ·rw [if_pos h5]; exact .bad ZO ZO rfl hf hz h4.1 h4.2 rfl h5
  rw [if_neg h5]; exact .exp ZO ZO rfl hf hz h4.1 h4.2 rfl rfl ZO rfl
 rw [if_neg h4]; exact .plain ZO ZO rfl hf hz (fun h6 h7 => h4 ⟨h6, h7⟩)
def Z4l (t : L8) : Bool × Int × L8 × L8 × Int × Int × Int :=
 if 1024 < t.length then (false, 0, [], [], 0, 0, 80)
 else if (cutF t).2.2.2.2.2.2 then ((cutF t).1, (cutF t).2.1, (cutF t).2.2.1, (cutF t).2.2.2.1, (cutF t).2.2.2.2.1, 0, 0)
 else (false, 0, [], [], 0, (cutF t).2.2.2.2.2.1, 81)
theorem readF_ok (t : L8) : Z1N t (Z4l t).1 (Z4l t).2.1 (Z4l t).2.2.1 (Z4l t).2.2.2.1 (Z4l t).2.2.2.2.1 (Z4l t).2.2.2.2.2.1 (Z4l t).2.2.2.2.2.2 := by
 unfold Z4l
 by_cases h : 1024 < t.length
 ·rw [if_pos h]; exact .long h
 rw [if_neg h]
 have hc := cutF_ok t
 cases e : (cutF t).2.2.2.2.2.2 with
 | true => rw [e] at hc; rw [if_pos rfl]; exact .ok ZO hc
 | false => rw [e] at hc; rw [if_neg (by decide)]; exact .form ZO hc
def scanF (t : L8) : Bool × Int × Int × Int × Bool × Int × Int :=
 match Z4l t with
 | (ng, wd, W, F, x, p, e) =>
  if e = 0 then
   if wd = 0 ∧ ¬ Z0T (W ++ F) = [] then
    (ng, 0, pv ((Z0T (W ++ F)).take ((Z0T (W ++ F)).length - ((Z0T (W ++ F)).length - 19))), x - F.length + (((Z0T (W ++ F)).length - 19 : Nat) : Int), ((Z0T (W ++ F)).drop ((Z0T (W ++ F)).length - ((Z0T (W ++ F)).length - 19))).any (fun c => !decide (c = 48)), 0, 0)
   else (decide (ng = true ∧ ¬ wd = 2), wd, 0, 0, false, 0, 0)
  else (false, 0, 0, 0, false, p, e)
theorem scanF_ok {t : L8} {ng more : Bool} {wd man x p e : Int} (h : Z1k t ng wd man x more p e) : scanF t = (ng, wd, man, x, more, p, e) := by
 have hr := readF_ok t
 unfold scanF
 generalize Z4l t = z at hr
 obtain ⟨ng0, wd0, W0, F0, x0, p0, e0⟩ := z
 simp only at hr ⊢
 cases h with
 | err hr2 he =>
  obtain ⟨_, _, _, _, _, rfl, rfl⟩ := hr.unique hr2
  rw [if_neg he]
 | nil hr2 hn =>
  obtain ⟨rfl, rfl, rfl, rfl, rfl, rfl, rfl⟩ := hr.unique hr2
  rw [if_pos rfl, if_neg (fun h => hn.elim (fun h2 => h2 h.1) (fun h2 => h.2 h2))]
 | num hr2 hne hn =>
  obtain ⟨rfl, rfl, rfl, rfl, rfl, rfl, rfl⟩ := hr.unique hr2
  subst hn
  rw [if_pos rfl, if_pos ⟨rfl, hne⟩]
theorem Z4V {t : L8} {ng more ng' more' : Bool} {wd man x p e wd' man' x' p' e' : Int} (h : Z1k t ng wd man x more p e) (k : scanF t = (ng', wd', man', x', more', p', e')) : ng = ng' ∧ wd = wd' ∧ man = man' ∧ x = x' ∧ more = more' ∧ p = p' ∧ e = e' := by
 have := (scanF_ok h).symm.trans k
 simpa using this
end Go.Proofs.YtfomhfbmmjhljaaGreatDoor.W
