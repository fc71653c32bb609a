/- walks of the document's scanner: lower, run, cut, begins, check, exponent, all -/
import Derived.Test.YtgjgahmhoflgcaaGreatDoorSd
set_option linter.unusedVariables false
set_option linter.unusedSimpArgs false
set_option maxRecDepth 10000
namespace Go.Proofs.YtgjgahmhoflgcaaGreatDoor.W
open Go.Vc Go.RowKit
theorem RC.form {t : L8} {ng en : Bool} {wd : Int} {W F E : L8} (h : RC t ng wd W F en E false) (hl : t.length ≤ 1024) {n : Nat} (hn : n ≤ t.length) (h1 : ¬ st t n = 19) (h2 : n < t.length → st t (n + 1) = 19) : Z5v t false 0 [] [] 0 (n : Int) 81 := by
 obtain ⟨_, _, _, _, _, a, hc, _⟩ := h.cut
 obtain ⟨m, rfl, hm, h3, h4, _⟩ := hc.state
 have : m = n := by
  rcases Nat.lt_trichotomy m n with h | h | h
  ·exact absurd (st_mono (h4 ZO) ZO) h1
  ·exact h
  exact absurd (st_mono (h2 ZO) ZO) h3
 subst this
 exact .form hl hc
inductive ChkR (t : L8) : Bool → Int → L8 → L8 → Bool → L8 → Int → Int → Prop
 | long (h : 1024 < t.length) : ChkR t false 0 [] [] false [] 0 80
 | ok {ng en : Bool} {wd : Int} {W F E : L8} (h : t.length ≤ 1024) (hc : RC t ng wd W F en E true) : ChkR t ng wd W F en E 0 0
 | form {p : Int} (h : Z5v t false 0 [] [] 0 p 81) : ChkR t false 0 [] [] false [] p 81
theorem getD_mem {l : L8} {k : Nat} (h : k < l.length) : l.getD k 0 ∈ l := by
 have e : l.getD k 0 = l[k] := by simp [List.getD, h]
 rw [e]
 exact List.getElem_mem h
theorem Z58 {l : List Int} {n : Int} (h : Ma.Cn 18446744073709551616 l n) {k : Nat} (hb : Ma.blen n ≤ k) : 64 * l.length ≤ k + 64 := by
 rcases Nat.eq_zero_or_pos l.length with h0 | h0
 ·omega
 have := Ma.blen_top (s := 64) h.dg h.tr h0
 rw [show ((2 : Int) ^ 64) = 18446744073709551616 from rfl, h.val] at this
 have := Ma.blen_nonneg (l.getD (l.length - 1) 0)
 omega
theorem Z5v.unique {t : L8} {ng ng' : Bool} {wd x p e wd' x' p' e' : Int} {W F W' F' : L8} (h : Z5v t ng wd W F x p e) (k : Z5v t ng' wd' W' F' x' p' e') : ng = ng' ∧ wd = wd' ∧ W = W' ∧ F = F' ∧ x = x' ∧ p = p' ∧ e = e' := by
 cases h with
 | long h =>
  cases k with
  | long _ => exact ⟨rfl, rfl, rfl, rfl, rfl, rfl, rfl⟩
  | form h2 _ => omega
  | ok h2 _ => omega
 | form h hc =>
  cases k with
  | long _ => omega
  | form _ hc2 => obtain ⟨_, _, _, _, _, rfl, _⟩ := hc.unique hc2; exact ⟨rfl, rfl, rfl, rfl, rfl, rfl, rfl⟩
  | ok _ hc2 => obtain ⟨_, _, _, _, _, _, h⟩ := hc.unique hc2; cases h
 | ok h hc =>
  cases k with
  | long _ => omega
  | form _ hc2 => obtain ⟨_, _, _, _, _, _, h⟩ := hc.unique hc2; cases h
  | ok _ hc2 => obtain ⟨rfl, rfl, rfl, rfl, rfl, _, _⟩ := hc.unique hc2; exact ⟨rfl, rfl, rfl, rfl, rfl, rfl, rfl⟩
theorem Z5o.unique {t : L8} {ng ng' more more' : Bool} {wd man x p e wd' man' x' p' e' : Int} (h : Z5o t ng wd man x more p e) (k : Z5o t ng' wd' man' x' more' p' e') : ng = ng' ∧ wd = wd' ∧ man = man' ∧ x = x' ∧ more = more' ∧ p = p' ∧ e = e' := by
 cases h with
 | err hr he =>
  cases k with
  | err hr2 _ => obtain ⟨_, _, _, _, _, rfl, rfl⟩ := hr.unique hr2; exact ⟨rfl, rfl, rfl, rfl, rfl, rfl, rfl⟩
  | nil hr2 _ => obtain ⟨_, _, _, _, _, _, h⟩ := hr.unique hr2; exact absurd h he
  | num hr2 _ _ => obtain ⟨_, _, _, _, _, _, h⟩ := hr.unique hr2; exact absurd h he
 | nil hr hn =>
  cases k with
  | err hr2 he => obtain ⟨_, _, _, _, _, _, h⟩ := hr2.unique hr; exact absurd h he
  | nil hr2 _ => obtain ⟨rfl, rfl, _⟩ := hr.unique hr2; exact ⟨rfl, rfl, rfl, rfl, rfl, rfl, rfl⟩
  | num hr2 hne _ =>
   obtain ⟨rfl, rfl, rfl, rfl, _⟩ := hr.unique hr2
   rcases hn with h | h
   ·exact absurd rfl h
   exact absurd h hne
 | num hr hne hn =>
  cases k with
  | err hr2 he => obtain ⟨_, _, _, _, _, _, h⟩ := hr2.unique hr; exact absurd h he
  | nil hr2 h2 =>
   obtain ⟨rfl, rfl, rfl, rfl, _⟩ := hr.unique hr2
   rcases h2 with h | h
   ·exact absurd rfl h
   exact absurd h hne
  | num hr2 _ hn2 => obtain ⟨rfl, _, rfl, rfl, rfl, _⟩ := hr.unique hr2; subst hn hn2; exact ⟨rfl, rfl, rfl, rfl, rfl, rfl, rfl⟩
theorem RC.read {t : L8} {ng en : Bool} {wd : Int} {W F E : L8} (h : RC t ng wd W F en E true) (hl : t.length ≤ 1024) : ∃ ng', Z5v t ng' wd W F (expS en E) 0 0 ∧ ng = decide (ng' = true ∧ ¬ wd = 2) := by
 obtain ⟨ng', wd', W', F', x, a, hc, hp⟩ := h.cut
 obtain ⟨rfl, rfl, rfl, hng, rfl⟩ := hp rfl
 exact ⟨ng', .ok hl hc, hng⟩
theorem RC.digs {t : L8} {ng en ok : Bool} {wd : Int} {W F E : L8} (h : RC t ng wd W F en E ok) : ∀ x ∈ E, isD x := by
 cases h with
 | @exp b F R E eb hw hf hz hr he eE =>
  intro x hx
  obtain ⟨j, hj, rfl⟩ := List.getElem_of_mem hx
  rw [List.length_take] at hj
  have := Z5n E j ZO
  have hj2 : j < E.length := by omega
  simpa [List.getD, hj2] using this
 | _ => intro x hx; cases hx
end Go.Proofs.YtgjgahmhoflgcaaGreatDoor.W
