/- plain facts: states that a text's beginnings lead to; what a text is cut into is one -/
import Derived.Test.YtgjgahmhoflgcaaGreatDoorSa
set_option linter.unusedVariables false
set_option linter.unusedSimpArgs false
set_option maxRecDepth 10000
namespace Go.Proofs.YtgjgahmhoflgcaaGreatDoor.W
open Go.Vc Go.RowKit
def isd (c : UInt8) : Bool := decide (48 ≤ c.toNat) && decide (c.toNat ≤ 57)
def sgn (c : UInt8) : Bool := c == 43 || c == 45
def lt8 (k c : UInt8) : Bool := (c ||| 32) == k
def dlS (q : Nat) (c : UInt8) : Nat :=
 if q = 0 ∧ sgn c then 1
 else if q ≤ 1 ∧ isd c then 2
 else if q ≤ 1 ∧ c = 46 then 3
 else if q ≤ 1 ∧ lt8 105 c then 8
 else if q ≤ 1 ∧ lt8 110 c then 16
 else if q = 2 ∧ isd c then 2
 else if q = 2 ∧ c = 46 then 4
 else if (q = 3 ∨ q = 4) ∧ isd c then 4
 else if (q = 2 ∨ q = 4) ∧ lt8 101 c then 5
 else if q = 5 ∧ sgn c then 6
 else if (q = 5 ∨ q = 6 ∨ q = 7) ∧ isd c then 7
 else if 8 ≤ q ∧ q < 15 ∧ lt8 (infw.getD (q - 7) 0) c then q + 1
 else if 16 ≤ q ∧ q < 18 ∧ lt8 (nanw.getD (q - 15) 0) c then q + 1
 else 19
def acc (q : Nat) : Bool := [2, 4, 7, 10, 15, 18].contains q
def go (q : Nat) (s : L8) : Nat := s.foldl dlS q
theorem go_cons (q : Nat) (c : UInt8) (s : L8) : go q (c :: s) = go (dlS q c) s := rfl
theorem Z6F (q : Nat) (s t : L8) : go q (s ++ t) = go (go q s) t := by simp [go]
theorem go_dead (s : L8) : go 19 s = 19 := by
  induction s with
  | nil => rfl
  | cons c s ih => rw [go_cons]; have : dlS 19 c = 19 := by simp [dlS]
                   rw [this, ih]
theorem all8 {p : UInt8 → Prop} (h : ∀ k : Fin 256, p (UInt8.ofNat k.val)) (c : UInt8) : p c := by
 have := h ⟨c.toNat, UInt8.toNat_lt c⟩
 simpa using this
def st (t : L8) (n : Nat) : Nat := go 0 (t.take n)
theorem Z5s {t : L8} {n : Nat} (h : n < t.length) : st t (n + 1) = dlS (st t n) (t.getD n 0) := by
 unfold st
 rw [List.take_succ_eq_append_getElem h, Z6F]
 simp [go, List.getD, h]
theorem st_len (t : L8) : st t t.length = go 0 t := by unfold st; rw [List.take_length]
theorem st_add (t : L8) (a n : Nat) : st t (a + n) = go (st t a) ((t.drop a).take n) := by
 unfold st
 rw [List.take_add, Z6F]
theorem st_dead {t : L8} {n : Nat} (h : st t n = 19) : go 0 t = 19 := by
 have : go 0 t = go (go 0 (t.take n)) (t.drop n) := by rw [← Z6F, List.take_append_drop]
 rw [this, show go 0 (t.take n) = 19 from h, go_dead]
theorem st_mono {t : L8} {n m : Nat} (h : st t n = 19) (hm : n ≤ m) : st t m = 19 := by
 obtain ⟨k, rfl⟩ := Nat.exists_eq_add_of_le hm
 rw [st_add, h, go_dead]
theorem Z6G (c : UInt8) : isD c ↔ isd c = true := by unfold isD isd; simp; omega
theorem run_go (q q' : Nat) (h1 : ∀ c, isd c = true → dlS q c = q') (h2 : ∀ c, isd c = true → dlS q' c = q') : ∀ b : L8, go q (b.take (run b)) = if run b = 0 then q else q'
 | [] => by simp [run, go]
 | c :: b => by
  simp only [run]
  split
  ·rename_i hc
   have ih := run_go q' q' h2 h2 b
   rw [if_neg ZO, List.take_succ_cons, go_cons, h1 c ((Z6G c).1 hc), ih]
   split <;> rfl
  simp [go]
theorem st_run (t : L8) (a q' : Nat) (h1 : ∀ c, isd c = true → dlS (st t a) c = q') (h2 : ∀ c, isd c = true → dlS q' c = q') : st t (a + run (t.drop a)) = if run (t.drop a) = 0 then st t a else q' := by
 rw [st_add]
 exact run_go _ _ h1 h2 _
theorem Z5R {t : L8} {a : Nat} (h : a + run (t.drop a) < t.length) : isd (t.getD (a + run (t.drop a)) 0) = false := by
 have := Z72 (t.drop a) (by rw [List.length_drop]; omega)
 rw [Z4Y, Z6G] at this
 simpa using this
theorem d01 : ∀ q : Fin 2, ∀ c : UInt8, isd c = true → dlS q.val c = 2 := fun q => all8 (by revert q; decide +kernel)
theorem d2 : ∀ c : UInt8, isd c = true → dlS 2 c = 2 := all8 (by decide +kernel)
theorem d34 : ∀ q : Fin 2, ∀ c : UInt8, isd c = true → dlS (3 + q.val) c = 4 := fun q => all8 (by revert q; decide +kernel)
theorem d567 : ∀ q : Fin 3, ∀ c : UInt8, isd c = true → dlS (5 + q.val) c = 7 := fun q => all8 (by revert q; decide +kernel)
theorem p01 : ∀ q : Fin 2, dlS q.val 46 = 3 := by decide
theorem p2S : dlS 2 46 = 4 := by decide
theorem x0 : ∀ c : UInt8, isd c = false → sgn c = false → ¬ c = 46 → ¬ (c ||| 32) = 105 → ¬ (c ||| 32) = 110 → dlS 0 c = 19 := all8 (by decide +kernel)
theorem x1 : ∀ c : UInt8, isd c = false → ¬ c = 46 → ¬ (c ||| 32) = 105 → ¬ (c ||| 32) = 110 → dlS 1 c = 19 := all8 (by decide +kernel)
theorem x2 : ∀ c : UInt8, isd c = false → ¬ c = 46 → ¬ (c ||| 32) = 101 → dlS 2 c = 19 := all8 (by decide +kernel)
theorem x3 : ∀ c : UInt8, isd c = false → dlS 3 c = 19 := all8 (by decide +kernel)
theorem x4 : ∀ c : UInt8, isd c = false → ¬ (c ||| 32) = 101 → dlS 4 c = 19 := all8 (by decide +kernel)
theorem e24 : ∀ c : UInt8, (c ||| 32) = 101 → dlS 2 c = 5 ∧ dlS 4 c = 5 := all8 (by decide +kernel)
theorem s5 : ∀ c : UInt8, sgn c = true → dlS 5 c = 6 ∧ dlS 0 c = 1 := all8 (by decide +kernel)
theorem x5 : ∀ c : UInt8, isd c = false → sgn c = false → dlS 5 c = 19 := all8 (by decide +kernel)
theorem x67 : ∀ c : UInt8, isd c = false → dlS 6 c = 19 ∧ dlS 7 c = 19 := all8 (by decide +kernel)
theorem i0 : ∀ q : Fin 2, ∀ c : UInt8, (c ||| 32) = 105 → dlS q.val c = 8 := fun q => all8 (by revert q; decide +kernel)
theorem i1 : ∀ j : Fin 8, 0 < j.val → ∀ c : UInt8, ((c ||| 32) = infw.getD j.val 0 → dlS (7 + j.val) c = 8 + j.val) ∧ (¬ (c ||| 32) = infw.getD j.val 0 → dlS (7 + j.val) c = 19) := fun j h => all8 (by revert j; decide +kernel)
theorem i8 (c : UInt8) : dlS 15 c = 19 := all8 (p := fun c => dlS 15 c = 19) (by decide +kernel) c
theorem n0 : ∀ q : Fin 2, ∀ c : UInt8, (c ||| 32) = 110 → dlS q.val c = 16 := fun q => all8 (by revert q; decide +kernel)
theorem n1 : ∀ j : Fin 3, 0 < j.val → ∀ c : UInt8, ((c ||| 32) = nanw.getD j.val 0 → dlS (15 + j.val) c = 16 + j.val) ∧ (¬ (c ||| 32) = nanw.getD j.val 0 → dlS (15 + j.val) c = 19) := fun j h => all8 (by revert j; decide +kernel)
theorem n8 (c : UInt8) : dlS 18 c = 19 := all8 (p := fun c => dlS 18 c = 19) (by decide +kernel) c
theorem Z5l : ∀ (s w : L8) (j : Nat), j < like s w → (s.getD j 0 ||| 32) = w.getD j 0
 | [], w, j, h => by simp [like] at h
 | c :: s, [], j, h => by simp [like] at h
 | c :: s, k :: w, j, h => by
  simp only [like] at h
  split at h
  ·rename_i hc
   cases j with
   | zero => simpa using hc
   | succ j => simpa using Z5l s w j ZO
  omega
theorem Z5C : ∀ (s w : L8), like s w < s.length → like s w < w.length → ¬ (s.getD (like s w) 0 ||| 32) = w.getD (like s w) 0
 | [], w, h, _ => by simp at h
 | c :: s, [], _, h => by simp at h
 | c :: s, k :: w, h1, h2 => by
  simp only [like] at h1 h2 ⊢
  split
  ·rename_i hc
   rw [if_pos hc] at h1 h2
   simpa using Z5C s w (by simpa using h1) (by simpa using h2)
  rename_i hc
  simpa using hc
theorem Z7c (t : L8) (i : Nat) : sgP t i ↔ sgn (t.getD i 0) = true := by
 unfold sgP sgn
 rw [show ((t.getD i 0).toNat : Int) = 43 ↔ t.getD i 0 = 43 from Z5U (d := 43), show ((t.getD i 0).toNat : Int) = 45 ↔ t.getD i 0 = 45 from Z5U (d := 45)]
 simp
theorem st_sg (t : L8) : (sg t 0 = 0 ∧ st t (sg t 0) = 0 ∧ (0 < t.length → sgn (t.getD 0 0) = false)) ∨ (sg t 0 = 1 ∧ st t (sg t 0) = 1) := by
 by_cases h : 0 < t.length ∧ sgP t 0
 ·refine .inr ⟨Z6J h.1 h.2, ?_⟩
  rw [Z6J h.1 h.2, Z5s h.1]
  exact (s5 _ ((Z7c t 0).1 h.2)).2
 refine .inl ⟨sg_no h, by rw [sg_no h]; rfl, fun h0 => ?_⟩
 have : ¬ sgn (t.getD 0 0) = true := fun h2 => h ⟨h0, (Z7c t 0).2 h2⟩
 simpa using this
theorem Z7d (t : L8) : st t (sg t 0) ≤ 1 := by rcases st_sg t with h | h <;> omega
theorem st_inf (t : L8) : ∀ j, j < like (t.drop (sg t 0)) infw → st t (sg t 0 + (j + 1)) = 8 + j
 | 0, h => by
  have hb := Z5k (t.drop (sg t 0)) infw
  rw [List.length_drop] at hb
  have h1 := Z5l _ _ 0 h
  rw [Z4Y] at h1
  rw [show sg t 0 + (0 + 1) = sg t 0 + 1 from rfl, Z5s ZO]
  exact i0 ⟨st t (sg t 0), by have := Z7d t; omega⟩ _ (by simpa [infw] using h1)
 | j + 1, h => by
  have hb := Z5k (t.drop (sg t 0)) infw
  rw [List.length_drop] at hb
  have hl : infw.length = 8 := rfl
  have h1 := Z5l _ _ (j + 1) h
  rw [Z4Y] at h1
  rw [show sg t 0 + (j + 1 + 1) = sg t 0 + (j + 1) + 1 from by omega, Z5s ZO, st_inf t j ZO, show 8 + j = 7 + (j + 1) from by omega]
  have := (i1 ⟨j + 1, ZO⟩ (by simp) _).1 h1
  omega
theorem st_nan (t : L8) : ∀ j, j < like (t.drop (sg t 0)) nanw → st t (sg t 0 + (j + 1)) = 16 + j
 | 0, h => by
  have hb := Z5k (t.drop (sg t 0)) nanw
  rw [List.length_drop] at hb
  have h1 := Z5l _ _ 0 h
  rw [Z4Y] at h1
  rw [show sg t 0 + (0 + 1) = sg t 0 + 1 from rfl, Z5s ZO]
  exact n0 ⟨st t (sg t 0), by have := Z7d t; omega⟩ _ (by simpa [nanw] using h1)
 | j + 1, h => by
  have hb := Z5k (t.drop (sg t 0)) nanw
  rw [List.length_drop] at hb
  have hl : nanw.length = 3 := rfl
  have h1 := Z5l _ _ (j + 1) h
  rw [Z4Y] at h1
  rw [show sg t 0 + (j + 1 + 1) = sg t 0 + (j + 1) + 1 from by omega, Z5s ZO, st_nan t j ZO, show 16 + j = 15 + (j + 1) from by omega]
  have := (n1 ⟨j + 1, ZO⟩ (by simp) _).1 h1
  omega
theorem st_a1 {t : L8} {a1 : Nat} (e : a1 = sg t 0 + run (t.drop (sg t 0))) : (run (t.drop (sg t 0)) = 0 ∧ a1 = sg t 0 ∧ st t a1 ≤ 1) ∨ (0 < run (t.drop (sg t 0)) ∧ st t a1 = 2) := by
 subst e
 have h1 := Z7d t
 have h := st_run t (sg t 0) 2 (d01 ⟨st t (sg t 0), ZO⟩) d2
 by_cases hr : run (t.drop (sg t 0)) = 0
 ·refine .inl ⟨hr, ZO, ?_⟩
  rw [hr]; exact h1
 exact .inr ⟨ZO, by rw [h, if_neg hr]⟩
theorem p46 {c : UInt8} : (c.toNat : Int) = 46 ↔ c = 46 := Z5U (d := 46)
theorem st_fr {t : L8} {a1 a : Nat} {F : L8} (e : a1 = sg t 0 + run (t.drop (sg t 0))) (hf : Fr t a1 F a) :
  (a = a1 ∧ F = [] ∧ (a1 < t.length → ¬ t.getD a1 0 = 46)) ∨ (a1 < t.length ∧ t.getD a1 0 = 46 ∧ F.length = run (t.drop (a1 + 1)) ∧ a = a1 + 1 + run (t.drop (a1 + 1)) ∧ a ≤ t.length ∧ (st t a = 4 ∨ st t a = 3 ∧ F = [] ∧ run (t.drop (sg t 0)) = 0)) := by
 cases hf with
 | no h => exact .inl ⟨rfl, rfl, fun h1 h2 => h h1 (p46.2 h2)⟩
 | yes h1 h2 =>
  have hrl := Z4X t (a1 + 1) ZO
  have h46 := p46.1 h2
  have hst : st t (a1 + 1) = 3 ∧ run (t.drop (sg t 0)) = 0 ∨ st t (a1 + 1) = 4 := by
   rw [Z5s h1, h46]
   rcases st_a1 e with h | h
   ·exact .inl ⟨p01 ⟨st t a1, ZO⟩, h.1⟩
   right; rw [h.2]; exact p2S
  have hlen : ((t.take (a1 + 1 + run (t.drop (a1 + 1)))).drop (a1 + 1)).length = run (t.drop (a1 + 1)) := by rw [Z64 t hrl]; omega
  refine .inr ⟨h1, h46, hlen, rfl, hrl, ?_⟩
  rcases hst with ⟨h3, h0⟩ | h4
  ·have := st_run t (a1 + 1) 4 (by rw [h3]; exact d34 0) (d34 1)
   rw [this]
   by_cases hr : run (t.drop (a1 + 1)) = 0
   ·rw [if_pos hr]
    exact .inr ⟨h3, List.eq_nil_of_length_eq_zero ZO, h0⟩
   rw [if_neg hr]; exact .inl rfl
  have := st_run t (a1 + 1) 4 (by rw [h4]; exact d34 1) (d34 1)
  rw [this, h4]
  left; split <;> rfl
theorem like0_inf {t : L8} {k : Nat} (h : like (t.drop k) infw = 0) (hk : k < t.length) : ¬ (t.getD k 0 ||| 32) = 105 := by
 have := Z5C (t.drop k) infw (by rw [h, List.length_drop]; omega) (by rw [h]; decide)
 rw [h, Z4Y] at this
 simpa [infw] using this
theorem like0_nan {t : L8} {k : Nat} (h : like (t.drop k) nanw = 0) (hk : k < t.length) : ¬ (t.getD k 0 ||| 32) = 110 := by
 have := Z5C (t.drop k) nanw (by rw [h, List.length_drop]; omega) (by rw [h]; decide)
 rw [h, Z4Y] at this
 simpa [nanw] using this
theorem Z5X {t : L8} {n q : Nat} (hn : n ≤ t.length) (hq : st t n = q) (h19 : ¬ q = 19) (hs : n < t.length → dlS q (t.getD n 0) = 19) {ok : Bool} (hok : ok = (decide (n = t.length) && acc q)) :
  n ≤ t.length ∧ ¬ st t n = 19 ∧ (n < t.length → st t (n + 1) = 19) ∧ ok = acc (go 0 t) := by
 refine ⟨hn, by rw [hq]; exact h19, fun h => by rw [Z5s h, hq]; exact hs h, ?_⟩
 by_cases h : n = t.length
 ·rw [hok, ← hq, h, st_len]; simp
 have hl : n < t.length := by omega
 have h2 : st t (n + 1) = 19 := by rw [Z5s hl, hq]; exact hs hl
 rw [hok, st_dead h2]
 simp [h]; decide
theorem e101 {t : L8} {a : Nat} : eP t a ↔ (t.getD a 0 ||| 32) = 101 := Z5U (d := 101)
theorem Z6H {t : L8} {a1 : Nat} (e : a1 = sg t 0 + run (t.drop (sg t 0))) : ((t.take a1).drop (sg t 0)).length = run (t.drop (sg t 0)) := by
 have h0 := Z7j t (i := 0) ZO
 have h1 := Z4X t (sg t 0) ZO
 rw [Z64 t ZO]; omega
theorem st_e {t : L8} {a1 a : Nat} {F : L8} (e1 : a1 = sg t 0 + run (t.drop (sg t 0))) (hf : Fr t a1 F a) (hz : 0 < ((t.take a1).drop (sg t 0)).length + F.length) : a ≤ t.length ∧ (st t a = 2 ∧ (a < t.length → isd (t.getD a 0) = false ∧ ¬ t.getD a 0 = 46) ∨ st t a = 4 ∧ (a < t.length → isd (t.getD a 0) = false)) := by
 rw [Z6H e1] at hz
 have h0 := Z7j t (i := 0) ZO
 have h1 := Z4X t (sg t 0) ZO
 rcases st_fr e1 hf with ⟨rfl, rfl, h46⟩ | ⟨hl, h46, hFl, rfl, hal, hst⟩
 ·refine ⟨ZO, .inl ?_⟩
  rcases st_a1 e1 with ⟨hr, _, _⟩ | ⟨hr, hst⟩
  ·simp at hz; omega
  exact ⟨hst, fun h => ⟨by rw [e1] at h ⊢; exact Z5R h, h46 h⟩⟩
 refine ⟨hal, .inr ?_⟩
 rcases hst with h4 | ⟨_, hF, h00⟩
 ·exact ⟨h4, fun h => Z5R h⟩
 rw [hF] at hz; simp at hz; omega
theorem st_exp {t : L8} {a q : Nat} (ha : a < t.length) (hq : st t a = 2 ∨ st t a = 4) (he : eP t a) : sg t (a + 1) ≤ t.length ∧ (sg t (a + 1) = a + 1 ∧ st t (sg t (a + 1)) = 5 ∧ (a + 1 < t.length → sgn (t.getD (a + 1) 0) = false) ∨ sg t (a + 1) = a + 2 ∧ st t (sg t (a + 1)) = 6) := by
 have h5 : st t (a + 1) = 5 := by
  rw [Z5s ha]
  rcases hq with h | h <;> rw [h]
  ·exact (e24 _ (e101.1 he)).1
  exact (e24 _ (e101.1 he)).2
 refine ⟨(Z7j t ZO).2.1, ?_⟩
 by_cases h : a + 1 < t.length ∧ sgP t (a + 1)
 ·refine .inr ⟨Z6J h.1 h.2, ?_⟩
  rw [Z6J h.1 h.2, Z5s h.1, h5]
  exact (s5 _ ((Z7c t _).1 h.2)).1
 refine .inl ⟨sg_no h, by rw [sg_no h]; exact h5, fun h0 => ?_⟩
 have : ¬ sgn (t.getD (a + 1) 0) = true := fun h2 => h ⟨h0, (Z7c t _).2 h2⟩
 simpa using this
theorem CutR.state {t : L8} {ng ok : Bool} {wd x a : Int} {W F : L8} (h : CutR t ng wd W F x a ok) : ∃ n : Nat, a = n ∧ n ≤ t.length ∧ ¬ st t n = 19 ∧ (n < t.length → st t (n + 1) = 19) ∧ ok = acc (go 0 t) := by
 have h0 := Z7j t (i := 0) ZO
 have h1 := Z4X t (sg t 0) ZO
 cases h with
 | inf h =>
  have hb := Z5k (t.drop (sg t 0)) infw
  rw [List.length_drop] at hb
  have hl8 : infw.length = 8 := rfl
  have hs := st_inf t (like (t.drop (sg t 0)) infw - 1) ZO
  have hstop := Z5C (t.drop (sg t 0)) infw
  rw [Z4Y] at hstop
  generalize like (t.drop (sg t 0)) infw = n at *
  refine ⟨sg t 0 + n, ZO, Z5X (q := 7 + n) ZO ?_ ZO (fun hlt => ?_) ?_⟩
  ·rw [show sg t 0 + n = sg t 0 + (n - 1 + 1) from by omega, hs]; omega
  ·by_cases hn : n = 8
   ·subst hn; exact i8 _
   exact (i1 ⟨n, ZO⟩ (by show 0 < n; omega) _).2 (hstop (by rw [List.length_drop]; omega) ZO)
  have key : ∀ m : Fin 9, 0 < m.val → acc (7 + m.val) = (decide (m.val = 3) || decide (m.val = 8)) := by decide
  rw [key ⟨n, ZO⟩ h]
  rw [Bool.eq_iff_iff]
  simp only [decide_eq_true_eq, Bool.and_eq_true, Bool.or_eq_true]
  omega
 | nan h0' h =>
  have hb := Z5k (t.drop (sg t 0)) nanw
  rw [List.length_drop] at hb
  have hl8 : nanw.length = 3 := rfl
  have hs := st_nan t (like (t.drop (sg t 0)) nanw - 1) ZO
  have hstop := Z5C (t.drop (sg t 0)) nanw
  rw [Z4Y] at hstop
  generalize like (t.drop (sg t 0)) nanw = n at *
  refine ⟨sg t 0 + n, ZO, Z5X (q := 15 + n) ZO ?_ ZO (fun hlt => ?_) ?_⟩
  ·rw [show sg t 0 + n = sg t 0 + (n - 1 + 1) from by omega, hs]; omega
  ·by_cases hn : n = 3
   ·subst hn; exact n8 _
   exact (n1 ⟨n, ZO⟩ (by show 0 < n; omega) _).2 (hstop (by rw [List.length_drop]; omega) ZO)
  have key : ∀ m : Fin 4, 0 < m.val → acc (15 + m.val) = decide (m.val = 3) := by decide
  rw [key ⟨n, ZO⟩ h]
  rw [Bool.eq_iff_iff]
  simp only [decide_eq_true_eq, Bool.and_eq_true]
  omega
 | @none F a1 a hi hn e1 hf hz =>
  rw [Z6H e1] at hz
  have hF : F = [] := List.eq_nil_of_length_eq_zero ZO
  have hr : run (t.drop (sg t 0)) = 0 := by omega
  have ea1 : a1 = sg t 0 := by omega
  refine ⟨a, rfl, ?_⟩
  rcases st_fr e1 hf with ⟨ea, _, h46⟩ | ⟨hl, h46, hFl, ea, hal, hst⟩
  ·have ea2 : a = sg t 0 := by omega
   rw [ea2]
   have hnx : sg t 0 < t.length → isd (t.getD (sg t 0) 0) = false := fun h => by have := Z5R (t := t) (a := sg t 0) ZO; rwa [hr] at this
   rcases st_sg t with ⟨hs0, hst, hsg⟩ | ⟨hs1, hst⟩
   ·refine Z5X (q := 0) ZO hst ZO (fun h => ?_) (by simp [acc])
    exact x0 _ (hnx h) (by rw [hs0]; exact hsg ZO) (by rw [← ea1]; exact h46 ZO) (like0_inf hi h) (like0_nan hn h)
   refine Z5X (q := 1) ZO hst ZO (fun h => ?_) (by simp [acc])
   exact x1 _ (hnx h) (by rw [← ea1]; exact h46 ZO) (like0_inf hi h) (like0_nan hn h)
  have hr2 : run (t.drop (a1 + 1)) = 0 := by rw [← hFl, hF]; rfl
  have h3 : st t a = 3 := by
   rcases hst with h4 | h3
   ·exfalso
    have := st_a1 e1
    have hs : st t (a1 + 1) = 3 := by
     rw [Z5s hl, h46]
     rcases this with h | h
     ·exact p01 ⟨st t a1, ZO⟩
     omega
    rw [ea, hr2] at h4
    rw [Nat.add_zero] at h4
    omega
   exact h3.1
  refine Z5X (q := 3) hal h3 ZO (fun h => x3 _ ?_) (by simp [acc])
  rw [ea] at h ⊢; exact Z5R h
 | @plain F a1 a hi hn e1 hf hz he =>
  obtain ⟨hal, hst⟩ := st_e e1 hf hz
  refine ⟨a, rfl, ?_⟩
  rcases hst with ⟨h2, hx⟩ | ⟨h4, hx⟩
  ·refine Z5X (q := 2) hal h2 ZO (fun h => x2 _ (hx h).1 (hx h).2 (fun h3 => he h (e101.2 h3))) ?_
   simp [acc]
   omega
  refine Z5X (q := 4) hal h4 ZO (fun h => x4 _ (hx h) (fun h3 => he h (e101.2 h3))) ?_
  simp [acc]
  omega
 | @bad F a1 a a4 hi hn e1 hf hz ha he e4 hr =>
  obtain ⟨hal, hst⟩ := st_e e1 hf hz
  have hq : Go.Proofs.YtgjgahmhoflgcaaGreatDoor.W.st t a = 2 ∨ Go.Proofs.YtgjgahmhoflgcaaGreatDoor.W.st t a = 4 := by rcases hst with h | h <;> simp [h.1]
  obtain ⟨h4l, h4⟩ := st_exp (q := 0) ha hq he
  rw [← e4] at h4l h4
  have hnx : a4 < t.length → isd (t.getD a4 0) = false := fun h => by have := Z5R (t := t) (a := a4) ZO; rwa [hr] at this
  refine ⟨a4, rfl, ?_⟩
  rcases h4 with ⟨h5, hs5, hsg⟩ | ⟨h6, hs6⟩
  ·exact Z5X (q := 5) h4l hs5 ZO (fun h => x5 _ (hnx h) (by rw [h5]; exact hsg ZO)) (by simp [acc])
  exact Z5X (q := 6) h4l hs6 ZO (fun h => (x67 _ (hnx h)).1) (by simp [acc])
 | @exp F a1 a a4 j x hi hn e1 hf hz ha he e4 hj hr hx =>
  obtain ⟨hal, hst⟩ := st_e e1 hf hz
  have hq : Go.Proofs.YtgjgahmhoflgcaaGreatDoor.W.st t a = 2 ∨ Go.Proofs.YtgjgahmhoflgcaaGreatDoor.W.st t a = 4 := by rcases hst with h | h <;> simp [h.1]
  obtain ⟨h4l, h4⟩ := st_exp (q := 0) ha hq he
  rw [← e4] at h4l h4
  have hrl := Z4X t a4 h4l
  have h7 : Go.Proofs.YtgjgahmhoflgcaaGreatDoor.W.st t (a4 + j) = 7 := by
   rw [hj]
   have hs : ∃ k : Fin 3, Go.Proofs.YtgjgahmhoflgcaaGreatDoor.W.st t a4 = 5 + k.val := by
    rcases h4 with ⟨_, h, _⟩ | ⟨_, h⟩
    ·exact ⟨0, h⟩
    exact ⟨1, h⟩
   obtain ⟨k, hk⟩ := hs
   rw [st_run t a4 7 (by rw [hk]; exact d567 k) (d567 2), if_neg ZO]
  refine ⟨a4 + j, rfl, Z5X (q := 7) ZO h7 ZO (fun h => (x67 _ (by rw [hj] at h ⊢; exact Z5R h)).2) ?_⟩
  rw [Bool.eq_iff_iff]
  simp [acc]
  omega
def lowc (c : UInt8) : UInt8 := if 65 ≤ c.toNat ∧ c.toNat ≤ 90 then c + 32 else c
abbrev low (s : L8) : L8 := s.map lowc
abbrev inf3w : L8 := [105, 110, 102]
inductive Fs (R : L8) : L8 → L8 → Prop
 | no (h : R = [] ∨ ¬ R.getD 0 0 = 46) : Fs R [] R
 | yes (h1 : ¬ R = []) (h2 : R.getD 0 0 = 46) : Fs R ((R.drop 1).take (run (R.drop 1))) ((R.drop 1).drop (run (R.drop 1)))
def Z6T (b : L8) : Prop := (b.length = 3 ∨ b.length = 8) ∧ ((low b = inf3w ∨ low b = infw) ∨ low b = nanw)
inductive RC (s : L8) : Bool → Int → L8 → L8 → Bool → L8 → Bool → Prop
 | inf {b : L8} (eb : b = s.drop (sg s 0)) (h : b.length = 3 ∨ b.length = 8) (hl : low b = inf3w ∨ low b = infw) : RC s (ngb s) 1 [] [] false [] true
 | nan {b : L8} (eb : b = s.drop (sg s 0)) (h : b.length = 3 ∨ b.length = 8) (hl : low b = nanw) : RC s false 2 [] [] false [] true
 | none {b F R : L8} {ng : Bool} (eb : b = s.drop (sg s 0)) (hw : ¬ Z6T b) (hf : Fs (b.drop (run b)) F R) (hz : b.take (run b) = [] ∧ F = []) : RC s ng 0 (b.take (run b)) F false [] false
 | plain {b F R : L8} (eb : b = s.drop (sg s 0)) (hw : ¬ Z6T b) (hf : Fs (b.drop (run b)) F R) (hz : ¬ (b.take (run b) = [] ∧ F = [])) (hr : R = []) : RC s (ngb s) 0 (b.take (run b)) F false [] true
 | rest {b F R : L8} {ng : Bool} (eb : b = s.drop (sg s 0)) (hw : ¬ Z6T b) (hf : Fs (b.drop (run b)) F R) (hz : ¬ (b.take (run b) = [] ∧ F = [])) (hr : ¬ R = []) (he : ¬ R.getD 0 0 = 101 ∧ ¬ R.getD 0 0 = 69) : RC s ng 0 (b.take (run b)) F false [] false
 | exp {b F R E : L8} (eb : b = s.drop (sg s 0)) (hw : ¬ Z6T b) (hf : Fs (b.drop (run b)) F R) (hz : ¬ (b.take (run b) = [] ∧ F = [])) (hr : ¬ R = []) (he : R.getD 0 0 = 101 ∨ R.getD 0 0 = 69) (eE : E = (R.drop 1).drop (sg (R.drop 1) 0)) :
   RC s (ngb s) 0 (b.take (run b)) F (ngb (R.drop 1)) (E.take (run E)) (decide (¬ E.take (run E) = [] ∧ E.drop (run E) = []))
theorem lowc_or8 : ∀ k : Fin 8, ∀ c : UInt8, (lowc c = infw.getD k.val 0 ↔ (c ||| 32) = infw.getD k.val 0) := fun k => all8 (by revert k; decide +kernel)
theorem lowc_orn : ∀ k : Fin 3, ∀ c : UInt8, (lowc c = nanw.getD k.val 0 ↔ (c ||| 32) = nanw.getD k.val 0) := fun k => all8 (by revert k; decide +kernel)
theorem low_at {b : L8} {j : Nat} (h : j < b.length) : (low b).getD j 0 = lowc (b.getD j 0) := by simp [low, List.getD, h]
theorem Z7e {b w : L8} {n : Nat} (hw : n ≤ w.length) (key : ∀ j, j < n → ∀ c : UInt8, lowc c = w.getD j 0 ↔ (c ||| 32) = w.getD j 0) (hl : b.length = n) : low b = w.take n ↔ n ≤ like b w := by
 constructor
 ·intro h
  have hlw : (w.take n).length = n := by rw [List.length_take]; omega
  have hall : ∀ j, j < n → (b.getD j 0 ||| 32) = w.getD j 0 := fun j hj => by
   have : (low b).getD j 0 = (w.take n).getD j 0 := congrArg (fun l : L8 => l.getD j 0) h
   rw [low_at ZO] at this
   have e : (w.take n).getD j 0 = w.getD j 0 := by simp [List.getD, List.getElem?_take, hj]
   rw [e] at this
   exact (key j hj _).1 this
  rcases Nat.lt_or_ge (like b w) n with h2 | h2
  ·exact absurd (hall _ h2) (Z5C b w ZO ZO)
  exact h2
 intro h
 refine List.ext_getElem (by first | (simp [low, hl, hw]; done) | (simp [low, hl, hw]; omega)) fun j h1 h2 => ?_
 have hj : j < n := by simp [low] at h1; omega
 have := (key j hj _).2 (Z5l b w j ZO)
 have hjb : j < b.length := by omega
 have hjw : j < w.length := by omega
 simpa [low, List.getD, hjb, hjw] using this
theorem Z7f {b : L8} (hl : b.length = 3) : low b = inf3w ↔ 3 ≤ like b infw := Z7e (w := infw) (n := 3) (by decide) (fun j hj c => lowc_or8 ⟨j, by omega⟩ c) hl
theorem Z7g {b : L8} (hl : b.length = 8) : low b = infw ↔ 8 ≤ like b infw := Z7e (w := infw) (n := 8) (by decide) (fun j hj c => lowc_or8 ⟨j, hj⟩ c) hl
theorem Z7h {b : L8} (hl : b.length = 3) : low b = nanw ↔ 3 ≤ like b nanw := Z7e (w := nanw) (n := 3) (by decide) (fun j hj c => lowc_orn ⟨j, hj⟩ c) hl
theorem Z5t {b w : L8} (h : low b = w) : b.length = w.length := by rw [← h]; simp [low]
theorem word_iff {b : L8} : Z6T b ↔ (b.length = 3 ∧ 3 ≤ like b infw) ∨ (b.length = 8 ∧ 8 ≤ like b infw) ∨ (b.length = 3 ∧ 3 ≤ like b nanw) := by
 unfold Z6T
 constructor
 ·rintro ⟨_, (h | h) | h⟩
  ·exact .inl ⟨Z5t h, (Z7f (Z5t h)).1 h⟩
  ·exact .inr (.inl ⟨Z5t h, (Z7g (Z5t h)).1 h⟩)
  exact .inr (.inr ⟨Z5t h, (Z7h (Z5t h)).1 h⟩)
 rintro (⟨h, h2⟩ | ⟨h, h2⟩ | ⟨h, h2⟩)
 ·exact ⟨.inl h, .inl (.inl ((Z7f h).2 h2))⟩
 ·exact ⟨.inr h, .inl (.inr ((Z7g h).2 h2))⟩
 exact ⟨.inl h, .inr ((Z7h h).2 h2)⟩
theorem inf_nan {b : L8} (h : 0 < like b infw) : like b nanw = 0 := by
 rcases Nat.eq_zero_or_pos (like b nanw) with h2 | h2
 ·exact h2
 have h3 := Z5l b infw 0 h
 have h4 := Z5l b nanw 0 h2
 rw [h3] at h4
 exact absurd h4 (by decide)
theorem dig_like : ∀ c : UInt8, (isd c = true ∨ c = 46) → ¬ (c ||| 32) = 105 ∧ ¬ (c ||| 32) = 110 := all8 (by decide +kernel)
theorem no_like {b : L8} (h : b = [] ∨ isd (b.getD 0 0) = true ∨ b.getD 0 0 = 46) : like b infw = 0 ∧ like b nanw = 0 := by
 rcases h with rfl | h
 ·exact ⟨rfl, rfl⟩
 have := dig_like _ h
 constructor
 ·rcases Nat.eq_zero_or_pos (like b infw) with h2 | h2
  ·exact h2
  exact absurd (Z5l b infw 0 h2) this.1
 rcases Nat.eq_zero_or_pos (like b nanw) with h2 | h2
 ·exact h2
 exact absurd (Z5l b nanw 0 h2) this.2
theorem Fs.fr {s R F R' : L8} {a1 : Nat} (ha : a1 ≤ s.length) (e : R = s.drop a1) (h : Fs R F R') : ∃ a, Fr s a1 F a ∧ R' = s.drop a ∧ a ≤ s.length := by
 subst e
 cases h with
 | no h =>
  refine ⟨a1, .no fun h1 h2 => ?_, rfl, ha⟩
  rcases h with h | h
  ·have := congrArg List.length h
   rw [List.length_drop] at this
   simp at this
   omega
  rw [Z4Y] at h
  exact h (p46.1 h2)
 | yes h1 h2 =>
  have hl : a1 < s.length := by
   rcases Nat.lt_or_ge a1 s.length with h | h
   ·exact h
   exact absurd (List.drop_eq_nil_of_le h) h1
  rw [Z4Y] at h2
  have hr := Z4X s (a1 + 1) ZO
  have e : (s.drop a1).drop 1 = s.drop (a1 + 1) := List.drop_drop
  rw [e]
  refine ⟨a1 + 1 + run (s.drop (a1 + 1)), ?_, ?_, hr⟩
  ·have := Fr.yes (t := s) hl (p46.2 h2)
   rw [List.drop_take] at this
   rwa [show a1 + 1 + run (s.drop (a1 + 1)) - (a1 + 1) = run (s.drop (a1 + 1)) from by omega] at this
  rw [List.drop_drop]
theorem Fr.unique {t : L8} {a b c : Nat} {F G : L8} (h : Fr t a F b) (k : Fr t a G c) : F = G ∧ b = c := by
 cases h with
 | no h =>
  cases k with
  | no _ => exact ⟨rfl, rfl⟩
  | yes h1 h2 => exact absurd h2 (h h1)
 | yes h1 h2 =>
  cases k with
  | no h => exact absurd h2 (h h1)
  | yes _ _ => exact ⟨rfl, rfl⟩
theorem Z7i {s : L8} {a : Nat} (ha : a ≤ s.length) : s.drop a = [] ↔ a = s.length := by
 rw [List.drop_eq_nil_iff]; omega
theorem sg_drop (s : L8) (a : Nat) (ha : a ≤ s.length) : (s.drop a).drop (sg (s.drop a) 0) = s.drop (sg s a) := by
 rw [List.drop_drop]
 congr 1
 unfold sg sgP
 simp only [List.length_drop, Z4Y, Nat.add_zero]
 by_cases h : a < s.length ∧ (((s.getD a 0).toNat : Int) = 43 ∨ ((s.getD a 0).toNat : Int) = 45)
 ·rw [if_pos h, if_pos ⟨ZO, h.2⟩]
 rw [if_neg h, if_neg (fun h2 => h ⟨ZO, h2.2⟩)]; rfl
theorem e69 : ∀ c : UInt8, ((c ||| 32) = 101 ↔ (c = 101 ∨ c = 69)) := all8 (by decide +kernel)
theorem take_nil {b : L8} : b.take (run b) = [] ↔ run b = 0 := by
 have hle := Z6y b
 constructor
 ·intro h
  have := congrArg List.length h
  rw [List.length_take, List.length_nil] at this
  omega
 intro h; rw [h]; rfl
def expS (en : Bool) (E : L8) : Int := if en = true then 0 - expo E else expo E
theorem RC.cut {s : L8} {ng en ok : Bool} {wd : Int} {W F E : L8} (h : RC s ng wd W F en E ok) : ∃ ng' wd' W' F' x a, CutR s ng' wd' W' F' x a ok ∧ (ok = true → wd' = wd ∧ W' = W ∧ F' = F ∧ ng = decide (ng' = true ∧ ¬ wd = 2) ∧ x = expS en E) := by
 have h0 := Z7j s (i := 0) ZO
 have h1 := Z4X s (sg s 0) ZO
 have hwhole : (s.take (sg s 0 + run (s.drop (sg s 0)))).drop (sg s 0) = (s.drop (sg s 0)).take (run (s.drop (sg s 0))) := by
  rw [List.drop_take, show sg s 0 + run (s.drop (sg s 0)) - sg s 0 = run (s.drop (sg s 0)) from by omega]
 have hlen : (s.drop (sg s 0)).length = s.length - sg s 0 := List.length_drop
 have hdec : ∀ b : Bool, b = decide (b = true ∧ ¬ (0 : Int) = 2) := fun b => by cases b <;> rfl
 have hwl := Z6H (t := s) (a1 := sg s 0 + run (s.drop (sg s 0))) rfl
 cases h with
 | @inf b eb h hl =>
  subst eb
  have hlk := Z5k (s.drop (sg s 0)) infw
  have hp : (s.drop (sg s 0)).length = 3 ∧ 3 ≤ like (s.drop (sg s 0)) infw ∨ (s.drop (sg s 0)).length = 8 ∧ 8 ≤ like (s.drop (sg s 0)) infw := by
   rcases hl with hl | hl
   ·exact .inl ⟨Z5t hl, (Z7f (Z5t hl)).1 hl⟩
   exact .inr ⟨Z5t hl, (Z7g (Z5t hl)).1 hl⟩
  have := CutR.inf (t := s) ZO
  rw [decide_eq_true ZO] at this
  exact ⟨_, _, _, _, _, _, this, fun _ => ⟨rfl, rfl, rfl, by simp, rfl⟩⟩
 | @nan b eb h hl =>
  subst eb
  have hlk := Z5k (s.drop (sg s 0)) nanw
  have h3 := Z5t hl
  have h4 := (Z7h h3).1 hl
  have h5 : like (s.drop (sg s 0)) infw = 0 := by
   rcases Nat.eq_zero_or_pos (like (s.drop (sg s 0)) infw) with h | h
   ·exact h
   have := inf_nan h; omega
  have := CutR.nan (t := s) h5 ZO
  have hn3 : nanw.length = 3 := rfl
  rw [decide_eq_true ZO] at this
  exact ⟨_, _, _, _, _, _, this, fun _ => ⟨rfl, rfl, rfl, by simp, rfl⟩⟩
 | @none b F R ng eb hw hf hz =>
  subst eb
  rw [word_iff] at hw
  have hlk := Z5k (s.drop (sg s 0)) infw
  have hlk2 := Z5k (s.drop (sg s 0)) nanw
  by_cases hi : 0 < like (s.drop (sg s 0)) infw
  ·have := CutR.inf (t := s) hi
   rw [decide_eq_false ZO] at this
   exact ⟨_, _, _, _, _, _, this, fun h => by cases h⟩
  by_cases hn : 0 < like (s.drop (sg s 0)) nanw
  ·have := CutR.nan (t := s) ZO hn
   rw [decide_eq_false ZO] at this
   exact ⟨_, _, _, _, _, _, this, fun h => by cases h⟩
  obtain ⟨a, hfr, _, _⟩ := hf.fr (a1 := sg s 0 + run (s.drop (sg s 0))) h1 (List.drop_drop)
  refine ⟨_, _, _, _, _, _, .none ZO ZO rfl hfr ?_, fun h => by cases h⟩
  rw [hwl, take_nil.1 hz.1, hz.2]; rfl
 | @plain b F R eb hw hf hz hr =>
  subst eb
  obtain ⟨a, hfr, hR, hal⟩ := hf.fr (a1 := sg s 0 + run (s.drop (sg s 0))) h1 (List.drop_drop)
  have hzz : 0 < ((s.take (sg s 0 + run (s.drop (sg s 0)))).drop (sg s 0)).length + F.length := by
   rw [hwl]
   rcases Nat.eq_zero_or_pos (run (s.drop (sg s 0))) with h | h
   ·have : ¬ F = [] := fun h2 => hz ⟨take_nil.2 h, h2⟩
    have := List.length_pos_iff.2 this
    omega
   omega
  have hnl := no_like (b := s.drop (sg s 0)) (by
   by_cases hr0 : run (s.drop (sg s 0)) = 0
   ·have hF : ¬ F = [] := fun h2 => hz ⟨take_nil.2 hr0, h2⟩
    rcases st_fr rfl hfr with ⟨_, h2, _⟩ | ⟨hl, h46, _⟩
    ·exact absurd h2 hF
    right; right
    rw [Z4Y, Nat.add_zero]
    rw [hr0] at h46
    exact h46
   right; left
   exact (Z6G _).1 (Z5n (s.drop (sg s 0)) 0 ZO))
  have := CutR.plain (t := s) hnl.1 hnl.2 rfl hfr hzz (fun h => absurd ((Z7i hal).1 (hR ▸ hr)) ZO)
  rw [decide_eq_true (by have := (Z7i hal).1 (hR ▸ hr); omega)] at this
  exact ⟨_, _, _, _, _, _, this, fun _ => ⟨rfl, hwhole, rfl, hdec _, rfl⟩⟩
 | @rest b F R ng eb hw hf hz hr he =>
  subst eb
  obtain ⟨a, hfr, hR, hal⟩ := hf.fr (a1 := sg s 0 + run (s.drop (sg s 0))) h1 (List.drop_drop)
  have hzz : 0 < ((s.take (sg s 0 + run (s.drop (sg s 0)))).drop (sg s 0)).length + F.length := by
   rw [hwl]
   rcases Nat.eq_zero_or_pos (run (s.drop (sg s 0))) with h | h
   ·have : ¬ F = [] := fun h2 => hz ⟨take_nil.2 h, h2⟩
    have := List.length_pos_iff.2 this
    omega
   omega
  have hnl := no_like (b := s.drop (sg s 0)) (by
   by_cases hr0 : run (s.drop (sg s 0)) = 0
   ·have hF : ¬ F = [] := fun h2 => hz ⟨take_nil.2 hr0, h2⟩
    rcases st_fr rfl hfr with ⟨_, h2, _⟩ | ⟨hl, h46, _⟩
    ·exact absurd h2 hF
    right; right
    rw [Z4Y, Nat.add_zero]
    rw [hr0] at h46
    exact h46
   right; left
   exact (Z6G _).1 (Z5n (s.drop (sg s 0)) 0 ZO))
  have hal2 : a < s.length := by
   rcases Nat.lt_or_ge a s.length with h | h
   ·exact h
   exact absurd (hR.trans (List.drop_eq_nil_of_le h)) hr
  have := CutR.plain (t := s) hnl.1 hnl.2 rfl hfr hzz (fun h h2 => by
   have := (e69 _).1 (e101.1 h2)
   rw [hR, Z4Y] at he
   rw [Nat.add_zero] at he
   rcases this with h | h
   ·exact he.1 h
   exact he.2 h)
  rw [decide_eq_false ZO] at this
  exact ⟨_, _, _, _, _, _, this, fun h => by cases h⟩
 | @exp b F R E eb hw hf hz hr he eE =>
  subst eb
  obtain ⟨a, hfr, hR, hal⟩ := hf.fr (a1 := sg s 0 + run (s.drop (sg s 0))) h1 (List.drop_drop)
  have hzz : 0 < ((s.take (sg s 0 + run (s.drop (sg s 0)))).drop (sg s 0)).length + F.length := by
   rw [hwl]
   rcases Nat.eq_zero_or_pos (run (s.drop (sg s 0))) with h | h
   ·have : ¬ F = [] := fun h2 => hz ⟨take_nil.2 h, h2⟩
    have := List.length_pos_iff.2 this
    omega
   omega
  have hnl := no_like (b := s.drop (sg s 0)) (by
   by_cases hr0 : run (s.drop (sg s 0)) = 0
   ·have hF : ¬ F = [] := fun h2 => hz ⟨take_nil.2 hr0, h2⟩
    rcases st_fr rfl hfr with ⟨_, h2, _⟩ | ⟨hl, h46, _⟩
    ·exact absurd h2 hF
    right; right
    rw [Z4Y, Nat.add_zero]
    rw [hr0] at h46
    exact h46
   right; left
   exact (Z6G _).1 (Z5n (s.drop (sg s 0)) 0 ZO))
  have hal2 : a < s.length := by
   rcases Nat.lt_or_ge a s.length with h | h
   ·exact h
   exact absurd (hR.trans (List.drop_eq_nil_of_le h)) hr
  have heP : eP s a := by
   rw [e101, e69]
   rw [hR, Z4Y, Nat.add_zero] at he
   exact he
  have hR1 : R.drop 1 = s.drop (a + 1) := by rw [hR, List.drop_drop]
  have hE : E = s.drop (sg s (a + 1)) := by rw [eE, hR1, sg_drop s (a + 1) ZO]
  have hs4 := Z7j s (i := a + 1) ZO
  have hr4 := Z4X s (sg s (a + 1)) ZO
  have hEl : E.length = s.length - sg s (a + 1) := by rw [hE, List.length_drop]
  have hEr : run E = run (s.drop (sg s (a + 1))) := by rw [hE]
  have hngE : ngb (R.drop 1) = decide (((s.getD (a + 1) 0).toNat : Int) = 45) := by unfold ngb; rw [hR1, Z4Y, Nat.add_zero]
  by_cases hz0 : run E = 0
  ·have := CutR.bad (t := s) hnl.1 hnl.2 rfl hfr hzz hal2 heP rfl ZO
   rw [decide_eq_false (fun h => h.1 (take_nil.2 hz0))]
   exact ⟨_, _, _, _, _, _, this, fun h => by cases h⟩
  have := CutR.exp (t := s) (x := expS (ngb (R.drop 1)) (E.take (run E))) hnl.1 hnl.2 rfl hfr hzz hal2 heP rfl hEr ZO (by
   rw [hngE, hE]
   unfold expS
   by_cases h : ((s.getD (a + 1) 0).toNat : Int) = 45
   ·rw [if_pos h, if_pos (by simpa using h)]
   rw [if_neg h, if_neg (by simpa using h)])
  have hd : decide (((sg s (a + 1) + run E : Nat) : Int) = (s.length : Int)) = decide (¬ E.take (run E) = [] ∧ E.drop (run E) = []) := by
   have h5 : E.drop (run E) = [] ↔ run E = E.length := Z7i (Z6y E)
   by_cases h : run E = E.length
   ·rw [decide_eq_true ZO, decide_eq_true ⟨fun h6 => hz0 (take_nil.1 h6), h5.2 h⟩]
   rw [decide_eq_false ZO, decide_eq_false (fun h6 => h (h5.1 h6.2))]
  rw [hd] at this
  exact ⟨_, _, _, _, _, _, this, fun _ => ⟨rfl, hwhole, rfl, hdec _, rfl⟩⟩
theorem CutR.unique {t : L8} {ng ok ng' ok' : Bool} {wd x a wd' x' a' : Int} {W F W' F' : L8} (h : CutR t ng wd W F x a ok) (k : CutR t ng' wd' W' F' x' a' ok') : ng = ng' ∧ wd = wd' ∧ W = W' ∧ F = F' ∧ x = x' ∧ a = a' ∧ ok = ok' := by
 cases h with
 | inf h => cases k <;> first | (exfalso; omega) | exact ⟨rfl, rfl, rfl, rfl, rfl, rfl, rfl⟩
 | nan h0 h => cases k <;> first | (exfalso; omega) | exact ⟨rfl, rfl, rfl, rfl, rfl, rfl, rfl⟩
 | none h0 h1 e1 hf hz =>
  subst e1
  cases k with
  | inf h => exfalso; omega
  | nan h0 h => exfalso; omega
  | none _ _ e1 hf2 _ => subst e1; obtain ⟨rfl, rfl⟩ := hf.unique hf2; exact ⟨rfl, rfl, rfl, rfl, rfl, rfl, rfl⟩
  | plain _ _ e1 hf2 hz2 _ => subst e1; obtain ⟨rfl, rfl⟩ := hf.unique hf2; exfalso; omega
  | bad _ _ e1 hf2 hz2 _ => subst e1; obtain ⟨rfl, rfl⟩ := hf.unique hf2; exfalso; omega
  | exp _ _ e1 hf2 hz2 _ => subst e1; obtain ⟨rfl, rfl⟩ := hf.unique hf2; exfalso; omega
 | plain h0 h1 e1 hf hz he =>
  subst e1
  cases k with
  | inf h => exfalso; omega
  | nan h0 h => exfalso; omega
  | none _ _ e1 hf2 hz2 => subst e1; obtain ⟨rfl, rfl⟩ := hf.unique hf2; exfalso; omega
  | plain _ _ e1 hf2 hz2 _ => subst e1; obtain ⟨rfl, rfl⟩ := hf.unique hf2; exact ⟨rfl, rfl, rfl, rfl, rfl, rfl, rfl⟩
  | bad _ _ e1 hf2 hz2 ha2 he2 _ _ => subst e1; obtain ⟨rfl, rfl⟩ := hf.unique hf2; exact absurd he2 (he ha2)
  | exp _ _ e1 hf2 hz2 ha2 he2 _ _ _ _ => subst e1; obtain ⟨rfl, rfl⟩ := hf.unique hf2; exact absurd he2 (he ha2)
 | bad h0 h1 e1 hf hz ha he e4 hr =>
  subst e1 e4
  cases k with
  | inf h => exfalso; omega
  | nan h0 h => exfalso; omega
  | none _ _ e1 hf2 hz2 => subst e1; obtain ⟨rfl, rfl⟩ := hf.unique hf2; exfalso; omega
  | plain _ _ e1 hf2 hz2 he2 => subst e1; obtain ⟨rfl, rfl⟩ := hf.unique hf2; exact absurd he (he2 ha)
  | bad _ _ e1 hf2 _ _ _ e4 _ => subst e1 e4; obtain ⟨rfl, rfl⟩ := hf.unique hf2; exact ⟨rfl, rfl, rfl, rfl, rfl, rfl, rfl⟩
  | exp _ _ e1 hf2 _ _ _ e4 hj hr2 _ => subst e1; obtain ⟨rfl, rfl⟩ := hf.unique hf2; subst e4; exfalso; omega
 | exp h0 h1 e1 hf hz ha he e4 hj hr hx =>
  subst e1 e4 hj hx
  cases k with
  | inf h => exfalso; omega
  | nan h0 h => exfalso; omega
  | none _ _ e1 hf2 hz2 => subst e1; obtain ⟨rfl, rfl⟩ := hf.unique hf2; exfalso; omega
  | plain _ _ e1 hf2 hz2 he2 => subst e1; obtain ⟨rfl, rfl⟩ := hf.unique hf2; exact absurd he (he2 ha)
  | bad _ _ e1 hf2 _ _ _ e4 hr2 => subst e1; obtain ⟨rfl, rfl⟩ := hf.unique hf2; subst e4; exfalso; omega
  | exp _ _ e1 hf2 _ _ _ e4 hj hr2 hx => subst e1; obtain ⟨rfl, rfl⟩ := hf.unique hf2; subst e4 hj hx; exact ⟨rfl, rfl, rfl, rfl, rfl, rfl, rfl⟩
theorem RC.state {s : L8} {ng en ok : Bool} {wd : Int} {W F E : L8} (h : RC s ng wd W F en E ok) : ok = acc (go 0 s) := by
 obtain ⟨_, _, _, _, _, _, hc, _⟩ := h.cut
 obtain ⟨_, _, _, _, _, hok⟩ := hc.state
 exact hok
end Go.Proofs.YtgjgahmhoflgcaaGreatDoor.W
