/- plain facts: states that a text's beginnings lead to; what a text is cut into is one -/
import Derived.Test.YtjkaahnadaapoaaSc
set_option linter.unusedVariables false
set_option linter.unusedSimpArgs false
set_option maxRecDepth 10000
namespace Go.Proofs.Ytjkaahnadaapoaa.W
open Go.Vc Go.RowKit

/-- states: 0 start, 1 sign, 2 digits, 3 point alone, 4 point and digits, 5 e, 6 e and sign, 7 e and digits, 8..15 letters of infinity, 16..18 letters of nan, 19 nothing -/
def isd (c : UInt8) : Bool := decide (48 ≤ c.toNat) && decide (c.toNat ≤ 57)
def sgn (c : UInt8) : Bool := c == 43 || c == 45
def lt8 (k c : UInt8) : Bool := (c ||| 32) == k
def dl (q : Nat) (c : UInt8) : Nat :=
  if q = 0 ∧ sgn c then 1
  else if q ≤ 1 ∧ isd c then 2
  else if q ≤ 1 ∧ c = 46 then 3
  else if q ≤ 1 ∧ lt8 105 c then 8
  else if q ≤ 1 ∧ lt8 110 c then 16
  else if q = 2 ∧ isd c then 2
  else if q = 2 ∧ c = 46 then 4
  else if (q = 3 ∨ q = 4) ∧ isd c then 4
  else if (q = 2 ∨ q = 4) ∧ lt8 101 c then 5
  else if q = 5 ∧ sgn c then 6
  else if (q = 5 ∨ q = 6 ∨ q = 7) ∧ isd c then 7
  else if 8 ≤ q ∧ q < 15 ∧ lt8 (infw.getD (q - 7) 0) c then q + 1
  else if 16 ≤ q ∧ q < 18 ∧ lt8 (nanw.getD (q - 15) 0) c then q + 1
  else 19
def acc (q : Nat) : Bool := [2, 4, 7, 10, 15, 18].contains q
def go (q : Nat) (s : L8) : Nat := s.foldl dl q
theorem go_cons (q : Nat) (c : UInt8) (s : L8) : go q (c :: s) = go (dl q c) s := rfl
theorem go_append (q : Nat) (s t : L8) : go q (s ++ t) = go (go q s) t := by simp [go]
theorem go_dead (s : L8) : go 19 s = 19 := by
  induction s with
  | nil => rfl
  | cons c s ih => rw [go_cons]; have : dl 19 c = 19 := by simp [dl]
                   rw [this, ih]
theorem all8 {p : UInt8 → Prop} (h : ∀ k : Fin 256, p (UInt8.ofNat k.val)) (c : UInt8) : p c := by
  have := h ⟨c.toNat, UInt8.toNat_lt c⟩
  simpa using this
theorem dl_le : ∀ q : Fin 20, ∀ c : UInt8, dl q.val c ≤ 19 := fun q => all8 (by revert q; decide +kernel)
theorem go_le (s : L8) : ∀ {q : Nat}, q ≤ 19 → go q s ≤ 19 := by
  induction s with
  | nil => exact fun h => h
  | cons c s ih => exact fun {q} h => ih (dl_le ⟨q, by omega⟩ c)
/-- what may come behind -/
def exts : List L8 := [[], [48], [105, 110, 102], [110, 102], [102], [105, 110, 105, 116, 121], [110, 105, 116, 121], [105, 116, 121], [116, 121], [121], [97, 110], [110]]
theorem live_ext : ∀ q : Fin 19, exts.any (fun e => acc (go q.val e)) = true := by decide +kernel
theorem live_iff (s : L8) : exts.any (fun e => acc (go 0 (s ++ e))) = decide (¬ go 0 s = 19) := by
  by_cases h : go 0 s = 19
  · have : exts.any (fun e => acc (go 0 (s ++ e))) = false := by
      rw [List.any_eq_false]
      intro e _
      rw [go_append, h, go_dead]
      decide
    rw [this]; simp [h]
  · have hl := go_le s (q := 0) (by omega)
    have := live_ext ⟨go 0 s, by omega⟩
    simp only [go_append]
    rw [this]; simp [h]
/-- the state behind n bytes -/
def st (t : L8) (n : Nat) : Nat := go 0 (t.take n)
theorem st_succ {t : L8} {n : Nat} (h : n < t.length) : st t (n + 1) = dl (st t n) (t.getD n 0) := by
  unfold st
  rw [List.take_succ_eq_append_getElem h, go_append]
  simp [go, List.getD, h]
theorem st_len (t : L8) : st t t.length = go 0 t := by unfold st; rw [List.take_length]
theorem st_add (t : L8) (a n : Nat) : st t (a + n) = go (st t a) ((t.drop a).take n) := by
  unfold st
  rw [List.take_add, go_append]
theorem st_dead {t : L8} {n : Nat} (h : st t n = 19) : go 0 t = 19 := by
  have : go 0 t = go (go 0 (t.take n)) (t.drop n) := by rw [← go_append, List.take_append_drop]
  rw [this, show go 0 (t.take n) = 19 from h, go_dead]
theorem st_mono {t : L8} {n m : Nat} (h : st t n = 19) (hm : n ≤ m) : st t m = 19 := by
  obtain ⟨k, rfl⟩ := Nat.exists_eq_add_of_le hm
  rw [st_add, h, go_dead]
theorem isD_isd (c : UInt8) : isD c ↔ isd c = true := by unfold isD isd; simp; omega
theorem run_go (q q' : Nat) (h1 : ∀ c, isd c = true → dl q c = q') (h2 : ∀ c, isd c = true → dl q' c = q') : ∀ b : L8, go q (b.take (run b)) = if run b = 0 then q else q'
  | [] => by simp [run, go]
  | c :: b => by
    simp only [run]
    split
    · rename_i hc
      have ih := run_go q' q' h2 h2 b
      rw [if_neg (by omega), List.take_succ_cons, go_cons, h1 c ((isD_isd c).1 hc), ih]
      split <;> rfl
    · simp [go]
theorem st_run (t : L8) (a q' : Nat) (h1 : ∀ c, isd c = true → dl (st t a) c = q') (h2 : ∀ c, isd c = true → dl q' c = q') : st t (a + run (t.drop a)) = if run (t.drop a) = 0 then st t a else q' := by
  rw [st_add]
  exact run_go _ _ h1 h2 _
theorem run_next {t : L8} {a : Nat} (h : a + run (t.drop a) < t.length) : isd (t.getD (a + run (t.drop a)) 0) = false := by
  have := run_stop (t.drop a) (by rw [List.length_drop]; omega)
  rw [getD_drop, isD_isd] at this
  simpa using this
theorem d01 : ∀ q : Fin 2, ∀ c : UInt8, isd c = true → dl q.val c = 2 := fun q => all8 (by revert q; decide +kernel)
theorem d2 : ∀ c : UInt8, isd c = true → dl 2 c = 2 := all8 (by decide +kernel)
theorem d34 : ∀ q : Fin 2, ∀ c : UInt8, isd c = true → dl (3 + q.val) c = 4 := fun q => all8 (by revert q; decide +kernel)
theorem d567 : ∀ q : Fin 3, ∀ c : UInt8, isd c = true → dl (5 + q.val) c = 7 := fun q => all8 (by revert q; decide +kernel)
theorem p01 : ∀ q : Fin 2, dl q.val 46 = 3 := by decide
theorem p2 : dl 2 46 = 4 := by decide
theorem x0 : ∀ c : UInt8, isd c = false → sgn c = false → ¬ c = 46 → ¬ (c ||| 32) = 105 → ¬ (c ||| 32) = 110 → dl 0 c = 19 := all8 (by decide +kernel)
theorem x1 : ∀ c : UInt8, isd c = false → ¬ c = 46 → ¬ (c ||| 32) = 105 → ¬ (c ||| 32) = 110 → dl 1 c = 19 := all8 (by decide +kernel)
theorem x2 : ∀ c : UInt8, isd c = false → ¬ c = 46 → ¬ (c ||| 32) = 101 → dl 2 c = 19 := all8 (by decide +kernel)
theorem x3 : ∀ c : UInt8, isd c = false → dl 3 c = 19 := all8 (by decide +kernel)
theorem x4 : ∀ c : UInt8, isd c = false → ¬ (c ||| 32) = 101 → dl 4 c = 19 := all8 (by decide +kernel)
theorem e24 : ∀ c : UInt8, (c ||| 32) = 101 → dl 2 c = 5 ∧ dl 4 c = 5 := all8 (by decide +kernel)
theorem s5 : ∀ c : UInt8, sgn c = true → dl 5 c = 6 ∧ dl 0 c = 1 := all8 (by decide +kernel)
theorem x5 : ∀ c : UInt8, isd c = false → sgn c = false → dl 5 c = 19 := all8 (by decide +kernel)
theorem x67 : ∀ c : UInt8, isd c = false → dl 6 c = 19 ∧ dl 7 c = 19 := all8 (by decide +kernel)
theorem i0 : ∀ q : Fin 2, ∀ c : UInt8, (c ||| 32) = 105 → dl q.val c = 8 := fun q => all8 (by revert q; decide +kernel)
theorem i1 : ∀ j : Fin 8, 0 < j.val → ∀ c : UInt8, ((c ||| 32) = infw.getD j.val 0 → dl (7 + j.val) c = 8 + j.val) ∧ (¬ (c ||| 32) = infw.getD j.val 0 → dl (7 + j.val) c = 19) := fun j h => all8 (by revert j; decide +kernel)
theorem i8 (c : UInt8) : dl 15 c = 19 := all8 (p := fun c => dl 15 c = 19) (by decide +kernel) c
theorem n0 : ∀ q : Fin 2, ∀ c : UInt8, (c ||| 32) = 110 → dl q.val c = 16 := fun q => all8 (by revert q; decide +kernel)
theorem n1 : ∀ j : Fin 3, 0 < j.val → ∀ c : UInt8, ((c ||| 32) = nanw.getD j.val 0 → dl (15 + j.val) c = 16 + j.val) ∧ (¬ (c ||| 32) = nanw.getD j.val 0 → dl (15 + j.val) c = 19) := fun j h => all8 (by revert j; decide +kernel)
theorem n8 (c : UInt8) : dl 18 c = 19 := all8 (p := fun c => dl 18 c = 19) (by decide +kernel) c
theorem like_all : ∀ (s w : L8) (j : Nat), j < like s w → (s.getD j 0 ||| 32) = w.getD j 0
  | [], w, j, h => by simp [like] at h
  | c :: s, [], j, h => by simp [like] at h
  | c :: s, k :: w, j, h => by
    simp only [like] at h
    split at h
    · rename_i hc
      cases j with
      | zero => simpa using hc
      | succ j => simpa using like_all s w j (by omega)
    · omega
theorem like_stop : ∀ (s w : L8), like s w < s.length → like s w < w.length → ¬ (s.getD (like s w) 0 ||| 32) = w.getD (like s w) 0
  | [], w, h, _ => by simp at h
  | c :: s, [], _, h => by simp at h
  | c :: s, k :: w, h1, h2 => by
    simp only [like] at h1 h2 ⊢
    split
    · rename_i hc
      rw [if_pos hc] at h1 h2
      simpa using like_stop s w (by simpa using h1) (by simpa using h2)
    · rename_i hc
      simpa using hc
theorem sgP_sgn (t : L8) (i : Nat) : sgP t i ↔ sgn (t.getD i 0) = true := by
  unfold sgP sgn
  rw [show ((t.getD i 0).toNat : Int) = 43 ↔ t.getD i 0 = 43 from u8_eq (d := 43), show ((t.getD i 0).toNat : Int) = 45 ↔ t.getD i 0 = 45 from u8_eq (d := 45)]
  simp
theorem st_sg (t : L8) : (sg t 0 = 0 ∧ st t (sg t 0) = 0 ∧ (0 < t.length → sgn (t.getD 0 0) = false)) ∨ (sg t 0 = 1 ∧ st t (sg t 0) = 1) := by
  by_cases h : 0 < t.length ∧ sgP t 0
  · refine .inr ⟨sg_yes h.1 h.2, ?_⟩
    rw [sg_yes h.1 h.2, st_succ h.1]
    exact (s5 _ ((sgP_sgn t 0).1 h.2)).2
  · refine .inl ⟨sg_no h, by rw [sg_no h]; rfl, fun h0 => ?_⟩
    have : ¬ sgn (t.getD 0 0) = true := fun h2 => h ⟨h0, (sgP_sgn t 0).2 h2⟩
    simpa using this
theorem st_sg_le (t : L8) : st t (sg t 0) ≤ 1 := by rcases st_sg t with h | h <;> omega
theorem st_inf (t : L8) : ∀ j, j < like (t.drop (sg t 0)) infw → st t (sg t 0 + (j + 1)) = 8 + j
  | 0, h => by
    have hb := like_le (t.drop (sg t 0)) infw
    rw [List.length_drop] at hb
    have h1 := like_all _ _ 0 h
    rw [getD_drop] at h1
    rw [show sg t 0 + (0 + 1) = sg t 0 + 1 from rfl, st_succ (by omega)]
    exact i0 ⟨st t (sg t 0), by have := st_sg_le t; omega⟩ _ (by simpa [infw] using h1)
  | j + 1, h => by
    have hb := like_le (t.drop (sg t 0)) infw
    rw [List.length_drop] at hb
    have hl : infw.length = 8 := rfl
    have h1 := like_all _ _ (j + 1) h
    rw [getD_drop] at h1
    rw [show sg t 0 + (j + 1 + 1) = sg t 0 + (j + 1) + 1 from by omega, st_succ (by omega), st_inf t j (by omega), show 8 + j = 7 + (j + 1) from by omega]
    have := (i1 ⟨j + 1, by omega⟩ (by simp) _).1 h1
    omega
theorem st_nan (t : L8) : ∀ j, j < like (t.drop (sg t 0)) nanw → st t (sg t 0 + (j + 1)) = 16 + j
  | 0, h => by
    have hb := like_le (t.drop (sg t 0)) nanw
    rw [List.length_drop] at hb
    have h1 := like_all _ _ 0 h
    rw [getD_drop] at h1
    rw [show sg t 0 + (0 + 1) = sg t 0 + 1 from rfl, st_succ (by omega)]
    exact n0 ⟨st t (sg t 0), by have := st_sg_le t; omega⟩ _ (by simpa [nanw] using h1)
  | j + 1, h => by
    have hb := like_le (t.drop (sg t 0)) nanw
    rw [List.length_drop] at hb
    have hl : nanw.length = 3 := rfl
    have h1 := like_all _ _ (j + 1) h
    rw [getD_drop] at h1
    rw [show sg t 0 + (j + 1 + 1) = sg t 0 + (j + 1) + 1 from by omega, st_succ (by omega), st_nan t j (by omega), show 16 + j = 15 + (j + 1) from by omega]
    have := (n1 ⟨j + 1, by omega⟩ (by simp) _).1 h1
    omega
/-- the state behind the digits -/
theorem st_a1 {t : L8} {a1 : Nat} (e : a1 = sg t 0 + run (t.drop (sg t 0))) : (run (t.drop (sg t 0)) = 0 ∧ a1 = sg t 0 ∧ st t a1 ≤ 1) ∨ (0 < run (t.drop (sg t 0)) ∧ st t a1 = 2) := by
  subst e
  have h1 := st_sg_le t
  have h := st_run t (sg t 0) 2 (d01 ⟨st t (sg t 0), by omega⟩) d2
  by_cases hr : run (t.drop (sg t 0)) = 0
  · refine .inl ⟨hr, by omega, ?_⟩
    rw [hr]; exact h1
  · exact .inr ⟨by omega, by rw [h, if_neg hr]⟩
theorem p46 {c : UInt8} : (c.toNat : Int) = 46 ↔ c = 46 := u8_eq (d := 46)
/-- the state behind the point's digits -/
theorem st_fr {t : L8} {a1 a : Nat} {F : L8} (e : a1 = sg t 0 + run (t.drop (sg t 0))) (hf : Fr t a1 F a) :
    (a = a1 ∧ F = [] ∧ (a1 < t.length → ¬ t.getD a1 0 = 46)) ∨ (a1 < t.length ∧ t.getD a1 0 = 46 ∧ F.length = run (t.drop (a1 + 1)) ∧ a = a1 + 1 + run (t.drop (a1 + 1)) ∧ a ≤ t.length ∧ (st t a = 4 ∨ st t a = 3 ∧ F = [] ∧ run (t.drop (sg t 0)) = 0)) := by
  cases hf with
  | no h => exact .inl ⟨rfl, rfl, fun h1 h2 => h h1 (p46.2 h2)⟩
  | yes h1 h2 =>
    have hrl := run_drop_le t (a1 + 1) (by omega)
    have h46 := p46.1 h2
    have hst : st t (a1 + 1) = 3 ∧ run (t.drop (sg t 0)) = 0 ∨ st t (a1 + 1) = 4 := by
      rw [st_succ h1, h46]
      rcases st_a1 e with h | h
      · exact .inl ⟨p01 ⟨st t a1, by omega⟩, h.1⟩
      · right; rw [h.2]; exact p2
    have hlen : ((t.take (a1 + 1 + run (t.drop (a1 + 1)))).drop (a1 + 1)).length = run (t.drop (a1 + 1)) := by rw [cut_len t hrl]; omega
    refine .inr ⟨h1, h46, hlen, rfl, hrl, ?_⟩
    rcases hst with ⟨h3, h0⟩ | h4
    · have := st_run t (a1 + 1) 4 (by rw [h3]; exact d34 0) (d34 1)
      rw [this]
      by_cases hr : run (t.drop (a1 + 1)) = 0
      · rw [if_pos hr]
        exact .inr ⟨h3, List.eq_nil_of_length_eq_zero (by omega), h0⟩
      · rw [if_neg hr]; exact .inl rfl
    · have := st_run t (a1 + 1) 4 (by rw [h4]; exact d34 1) (d34 1)
      rw [this, h4]
      left; split <;> rfl
theorem like0_inf {t : L8} {k : Nat} (h : like (t.drop k) infw = 0) (hk : k < t.length) : ¬ (t.getD k 0 ||| 32) = 105 := by
  have := like_stop (t.drop k) infw (by rw [h, List.length_drop]; omega) (by rw [h]; decide)
  rw [h, getD_drop] at this
  simpa [infw] using this
theorem like0_nan {t : L8} {k : Nat} (h : like (t.drop k) nanw = 0) (hk : k < t.length) : ¬ (t.getD k 0 ||| 32) = 110 := by
  have := like_stop (t.drop k) nanw (by rw [h, List.length_drop]; omega) (by rw [h]; decide)
  rw [h, getD_drop] at this
  simpa [nanw] using this
/-- what stops, and with what -/
theorem st_end {t : L8} {n q : Nat} (hn : n ≤ t.length) (hq : st t n = q) (h19 : ¬ q = 19) (hs : n < t.length → dl q (t.getD n 0) = 19) {ok : Bool} (hok : ok = (decide (n = t.length) && acc q)) :
    n ≤ t.length ∧ ¬ st t n = 19 ∧ (n < t.length → st t (n + 1) = 19) ∧ ok = acc (go 0 t) := by
  refine ⟨hn, by rw [hq]; exact h19, fun h => by rw [st_succ h, hq]; exact hs h, ?_⟩
  by_cases h : n = t.length
  · rw [hok, ← hq, h, st_len]; simp
  · have hl : n < t.length := by omega
    have h2 : st t (n + 1) = 19 := by rw [st_succ hl, hq]; exact hs hl
    rw [hok, st_dead h2]
    simp [h]; decide
theorem e101 {t : L8} {a : Nat} : eP t a ↔ (t.getD a 0 ||| 32) = 101 := u8_eq (d := 101)
theorem whole_len {t : L8} {a1 : Nat} (e : a1 = sg t 0 + run (t.drop (sg t 0))) : ((t.take a1).drop (sg t 0)).length = run (t.drop (sg t 0)) := by
  have h0 := sg_le t (i := 0) (by omega)
  have h1 := run_drop_le t (sg t 0) (by omega)
  rw [cut_len t (by omega)]; omega
theorem st_e {t : L8} {a1 a : Nat} {F : L8} (e1 : a1 = sg t 0 + run (t.drop (sg t 0))) (hf : Fr t a1 F a) (hz : 0 < ((t.take a1).drop (sg t 0)).length + F.length) : a ≤ t.length ∧ (st t a = 2 ∧ (a < t.length → isd (t.getD a 0) = false ∧ ¬ t.getD a 0 = 46) ∨ st t a = 4 ∧ (a < t.length → isd (t.getD a 0) = false)) := by
  rw [whole_len e1] at hz
  have h0 := sg_le t (i := 0) (by omega)
  have h1 := run_drop_le t (sg t 0) (by omega)
  rcases st_fr e1 hf with ⟨rfl, rfl, h46⟩ | ⟨hl, h46, hFl, rfl, hal, hst⟩
  · refine ⟨by omega, .inl ?_⟩
    rcases st_a1 e1 with ⟨hr, _, _⟩ | ⟨hr, hst⟩
    · simp at hz; omega
    · exact ⟨hst, fun h => ⟨by rw [e1] at h ⊢; exact run_next h, h46 h⟩⟩
  · refine ⟨hal, .inr ?_⟩
    rcases hst with h4 | ⟨_, hF, h00⟩
    · exact ⟨h4, fun h => run_next h⟩
    · rw [hF] at hz; simp at hz; omega
theorem st_exp {t : L8} {a q : Nat} (ha : a < t.length) (hq : st t a = 2 ∨ st t a = 4) (he : eP t a) : sg t (a + 1) ≤ t.length ∧ (sg t (a + 1) = a + 1 ∧ st t (sg t (a + 1)) = 5 ∧ (a + 1 < t.length → sgn (t.getD (a + 1) 0) = false) ∨ sg t (a + 1) = a + 2 ∧ st t (sg t (a + 1)) = 6) := by
  have h5 : st t (a + 1) = 5 := by
    rw [st_succ ha]
    rcases hq with h | h <;> rw [h]
    · exact (e24 _ (e101.1 he)).1
    · exact (e24 _ (e101.1 he)).2
  refine ⟨(sg_le t (by omega)).2.1, ?_⟩
  by_cases h : a + 1 < t.length ∧ sgP t (a + 1)
  · refine .inr ⟨sg_yes h.1 h.2, ?_⟩
    rw [sg_yes h.1 h.2, st_succ h.1, h5]
    exact (s5 _ ((sgP_sgn t _).1 h.2)).1
  · refine .inl ⟨sg_no h, by rw [sg_no h]; exact h5, fun h0 => ?_⟩
    have : ¬ sgn (t.getD (a + 1) 0) = true := fun h2 => h ⟨h0, (sgP_sgn t _).2 h2⟩
    simpa using this
theorem CutR.state {t : L8} {ng ok : Bool} {wd x a : Int} {W F : L8} (h : CutR t ng wd W F x a ok) : ∃ n : Nat, a = n ∧ n ≤ t.length ∧ ¬ st t n = 19 ∧ (n < t.length → st t (n + 1) = 19) ∧ ok = acc (go 0 t) := by
  have h0 := sg_le t (i := 0) (by omega)
  have h1 := run_drop_le t (sg t 0) (by omega)
  cases h with
  | inf h =>
    have hb := like_le (t.drop (sg t 0)) infw
    rw [List.length_drop] at hb
    have hl8 : infw.length = 8 := rfl
    have hs := st_inf t (like (t.drop (sg t 0)) infw - 1) (by omega)
    have hstop := like_stop (t.drop (sg t 0)) infw
    rw [getD_drop] at hstop
    generalize like (t.drop (sg t 0)) infw = n at *
    refine ⟨sg t 0 + n, by omega, st_end (q := 7 + n) (by omega) ?_ (by omega) (fun hlt => ?_) ?_⟩
    · rw [show sg t 0 + n = sg t 0 + (n - 1 + 1) from by omega, hs]; omega
    · by_cases hn : n = 8
      · subst hn; exact i8 _
      · exact (i1 ⟨n, by omega⟩ (by show 0 < n; omega) _).2 (hstop (by rw [List.length_drop]; omega) (by omega))
    · have key : ∀ m : Fin 9, 0 < m.val → acc (7 + m.val) = (decide (m.val = 3) || decide (m.val = 8)) := by decide
      rw [key ⟨n, by omega⟩ h]
      rw [Bool.eq_iff_iff]
      simp only [decide_eq_true_eq, Bool.and_eq_true, Bool.or_eq_true]
      omega
  | nan h0' h =>
    have hb := like_le (t.drop (sg t 0)) nanw
    rw [List.length_drop] at hb
    have hl8 : nanw.length = 3 := rfl
    have hs := st_nan t (like (t.drop (sg t 0)) nanw - 1) (by omega)
    have hstop := like_stop (t.drop (sg t 0)) nanw
    rw [getD_drop] at hstop
    generalize like (t.drop (sg t 0)) nanw = n at *
    refine ⟨sg t 0 + n, by omega, st_end (q := 15 + n) (by omega) ?_ (by omega) (fun hlt => ?_) ?_⟩
    · rw [show sg t 0 + n = sg t 0 + (n - 1 + 1) from by omega, hs]; omega
    · by_cases hn : n = 3
      · subst hn; exact n8 _
      · exact (n1 ⟨n, by omega⟩ (by show 0 < n; omega) _).2 (hstop (by rw [List.length_drop]; omega) (by omega))
    · have key : ∀ m : Fin 4, 0 < m.val → acc (15 + m.val) = decide (m.val = 3) := by decide
      rw [key ⟨n, by omega⟩ h]
      rw [Bool.eq_iff_iff]
      simp only [decide_eq_true_eq, Bool.and_eq_true]
      omega
  | @none F a1 a hi hn e1 hf hz =>
    rw [whole_len e1] at hz
    have hF : F = [] := List.eq_nil_of_length_eq_zero (by omega)
    have hr : run (t.drop (sg t 0)) = 0 := by omega
    have ea1 : a1 = sg t 0 := by omega
    refine ⟨a, rfl, ?_⟩
    rcases st_fr e1 hf with ⟨ea, _, h46⟩ | ⟨hl, h46, hFl, ea, hal, hst⟩
    · have ea2 : a = sg t 0 := by omega
      rw [ea2]
      have hnx : sg t 0 < t.length → isd (t.getD (sg t 0) 0) = false := fun h => by have := run_next (t := t) (a := sg t 0) (by omega); rwa [hr] at this
      rcases st_sg t with ⟨hs0, hst, hsg⟩ | ⟨hs1, hst⟩
      · refine st_end (q := 0) (by omega) hst (by omega) (fun h => ?_) (by simp [acc])
        exact x0 _ (hnx h) (by rw [hs0]; exact hsg (by omega)) (by rw [← ea1]; exact h46 (by omega)) (like0_inf hi h) (like0_nan hn h)
      · refine st_end (q := 1) (by omega) hst (by omega) (fun h => ?_) (by simp [acc])
        exact x1 _ (hnx h) (by rw [← ea1]; exact h46 (by omega)) (like0_inf hi h) (like0_nan hn h)
    · have hr2 : run (t.drop (a1 + 1)) = 0 := by rw [← hFl, hF]; rfl
      have h3 : st t a = 3 := by
        rcases hst with h4 | h3
        · exfalso
          have := st_a1 e1
          have hs : st t (a1 + 1) = 3 := by
            rw [st_succ hl, h46]
            rcases this with h | h
            · exact p01 ⟨st t a1, by omega⟩
            · omega
          rw [ea, hr2] at h4
          rw [Nat.add_zero] at h4
          omega
        · exact h3.1
      refine st_end (q := 3) hal h3 (by omega) (fun h => x3 _ ?_) (by simp [acc])
      rw [ea] at h ⊢; exact run_next h
  | @plain F a1 a hi hn e1 hf hz he =>
    obtain ⟨hal, hst⟩ := st_e e1 hf hz
    refine ⟨a, rfl, ?_⟩
    rcases hst with ⟨h2, hx⟩ | ⟨h4, hx⟩
    · refine st_end (q := 2) hal h2 (by omega) (fun h => x2 _ (hx h).1 (hx h).2 (fun h3 => he h (e101.2 h3))) ?_
      simp [acc]
      omega
    · refine st_end (q := 4) hal h4 (by omega) (fun h => x4 _ (hx h) (fun h3 => he h (e101.2 h3))) ?_
      simp [acc]
      omega
  | @bad F a1 a a4 hi hn e1 hf hz ha he e4 hr =>
    obtain ⟨hal, hst⟩ := st_e e1 hf hz
    have hq : Go.Proofs.Ytjkaahnadaapoaa.W.st t a = 2 ∨ Go.Proofs.Ytjkaahnadaapoaa.W.st t a = 4 := by rcases hst with h | h <;> simp [h.1]
    obtain ⟨h4l, h4⟩ := st_exp (q := 0) ha hq he
    rw [← e4] at h4l h4
    have hnx : a4 < t.length → isd (t.getD a4 0) = false := fun h => by have := run_next (t := t) (a := a4) (by omega); rwa [hr] at this
    refine ⟨a4, rfl, ?_⟩
    rcases h4 with ⟨h5, hs5, hsg⟩ | ⟨h6, hs6⟩
    · exact st_end (q := 5) h4l hs5 (by omega) (fun h => x5 _ (hnx h) (by rw [h5]; exact hsg (by omega))) (by simp [acc])
    · exact st_end (q := 6) h4l hs6 (by omega) (fun h => (x67 _ (hnx h)).1) (by simp [acc])
  | @exp F a1 a a4 j x hi hn e1 hf hz ha he e4 hj hr hx =>
    obtain ⟨hal, hst⟩ := st_e e1 hf hz
    have hq : Go.Proofs.Ytjkaahnadaapoaa.W.st t a = 2 ∨ Go.Proofs.Ytjkaahnadaapoaa.W.st t a = 4 := by rcases hst with h | h <;> simp [h.1]
    obtain ⟨h4l, h4⟩ := st_exp (q := 0) ha hq he
    rw [← e4] at h4l h4
    have hrl := run_drop_le t a4 h4l
    have h7 : Go.Proofs.Ytjkaahnadaapoaa.W.st t (a4 + j) = 7 := by
      rw [hj]
      have hs : ∃ k : Fin 3, Go.Proofs.Ytjkaahnadaapoaa.W.st t a4 = 5 + k.val := by
        rcases h4 with ⟨_, h, _⟩ | ⟨_, h⟩
        · exact ⟨0, h⟩
        · exact ⟨1, h⟩
      obtain ⟨k, hk⟩ := hs
      rw [st_run t a4 7 (by rw [hk]; exact d567 k) (d567 2), if_neg (by omega)]
    refine ⟨a4 + j, rfl, st_end (q := 7) (by omega) h7 (by omega) (fun h => (x67 _ (by rw [hj] at h ⊢; exact run_next h)).2) ?_⟩
    rw [Bool.eq_iff_iff]
    simp [acc]
    omega

end Go.Proofs.Ytjkaahnadaapoaa.W
