/- plain facts: the document's pieces of a text are the program's -/
import Derived.Test.YtjkaahnadaapoaaSd
set_option linter.unusedVariables false
set_option linter.unusedSimpArgs false
set_option maxRecDepth 10000
namespace Go.Proofs.Ytjkaahnadaapoaa.W
open Go.Vc Go.RowKit

/-- a byte with a small letter -/
def lowc (c : UInt8) : UInt8 := if 65 ≤ c.toNat ∧ c.toNat ≤ 90 then c + 32 else c
abbrev low (s : L8) : L8 := s.map lowc
abbrev inf3 : L8 := [105, 110, 102]
/-- the digits behind a point, and the rest -/
inductive Fs (R : L8) : L8 → L8 → Prop
  | no (h : R = [] ∨ ¬ R.getD 0 0 = 46) : Fs R [] R
  | yes (h1 : ¬ R = []) (h2 : R.getD 0 0 = 46) : Fs R ((R.drop 1).take (run (R.drop 1))) ((R.drop 1).drop (run (R.drop 1)))
def isWord (b : L8) : Prop := (b.length = 3 ∨ b.length = 8) ∧ ((low b = inf3 ∨ low b = infw) ∨ low b = nanw)
/-- the document's pieces of a text -/
inductive RC (s : L8) : Bool → Int → L8 → L8 → Bool → L8 → Bool → Prop
  | inf {b : L8} (eb : b = s.drop (sg s 0)) (h : b.length = 3 ∨ b.length = 8) (hl : low b = inf3 ∨ low b = infw) : RC s (ngb s) 1 [] [] false [] true
  | nan {b : L8} (eb : b = s.drop (sg s 0)) (h : b.length = 3 ∨ b.length = 8) (hl : low b = nanw) : RC s false 2 [] [] false [] true
  | none {b F R : L8} {ng : Bool} (eb : b = s.drop (sg s 0)) (hw : ¬ isWord b) (hf : Fs (b.drop (run b)) F R) (hz : b.take (run b) = [] ∧ F = []) : RC s ng 0 (b.take (run b)) F false [] false
  | plain {b F R : L8} (eb : b = s.drop (sg s 0)) (hw : ¬ isWord b) (hf : Fs (b.drop (run b)) F R) (hz : ¬ (b.take (run b) = [] ∧ F = [])) (hr : R = []) : RC s (ngb s) 0 (b.take (run b)) F false [] true
  | rest {b F R : L8} {ng : Bool} (eb : b = s.drop (sg s 0)) (hw : ¬ isWord b) (hf : Fs (b.drop (run b)) F R) (hz : ¬ (b.take (run b) = [] ∧ F = [])) (hr : ¬ R = []) (he : ¬ R.getD 0 0 = 101 ∧ ¬ R.getD 0 0 = 69) : RC s ng 0 (b.take (run b)) F false [] false
  | exp {b F R E : L8} (eb : b = s.drop (sg s 0)) (hw : ¬ isWord b) (hf : Fs (b.drop (run b)) F R) (hz : ¬ (b.take (run b) = [] ∧ F = [])) (hr : ¬ R = []) (he : R.getD 0 0 = 101 ∨ R.getD 0 0 = 69) (eE : E = (R.drop 1).drop (sg (R.drop 1) 0)) :
      RC s (ngb s) 0 (b.take (run b)) F (ngb (R.drop 1)) (E.take (run E)) (decide (¬ E.take (run E) = [] ∧ E.drop (run E) = []))
theorem lowc_or : ∀ c : UInt8, ∀ k : Fin 3, (lowc c = infw.getD k.val 0 ↔ (c ||| 32) = infw.getD k.val 0) := all8 (p := fun c => ∀ k : Fin 3, (lowc c = infw.getD k.val 0 ↔ (c ||| 32) = infw.getD k.val 0)) (by decide +kernel)
theorem lowc_or8 : ∀ k : Fin 8, ∀ c : UInt8, (lowc c = infw.getD k.val 0 ↔ (c ||| 32) = infw.getD k.val 0) := fun k => all8 (by revert k; decide +kernel)
theorem lowc_orn : ∀ k : Fin 3, ∀ c : UInt8, (lowc c = nanw.getD k.val 0 ↔ (c ||| 32) = nanw.getD k.val 0) := fun k => all8 (by revert k; decide +kernel)
theorem low_at {b : L8} {j : Nat} (h : j < b.length) : (low b).getD j 0 = lowc (b.getD j 0) := by simp [low, List.getD, h]
theorem low_like {b w : L8} {n : Nat} (hw : n ≤ w.length) (key : ∀ j, j < n → ∀ c : UInt8, lowc c = w.getD j 0 ↔ (c ||| 32) = w.getD j 0) (hl : b.length = n) : low b = w.take n ↔ n ≤ like b w := by
  constructor
  · intro h
    have hlw : (w.take n).length = n := by rw [List.length_take]; omega
    have hall : ∀ j, j < n → (b.getD j 0 ||| 32) = w.getD j 0 := fun j hj => by
      have : (low b).getD j 0 = (w.take n).getD j 0 := congrArg (fun l : L8 => l.getD j 0) h
      rw [low_at (by omega)] at this
      have e : (w.take n).getD j 0 = w.getD j 0 := by simp [List.getD, List.getElem?_take, hj]
      rw [e] at this
      exact (key j hj _).1 this
    rcases Nat.lt_or_ge (like b w) n with h2 | h2
    · exact absurd (hall _ h2) (like_stop b w (by omega) (by omega))
    · exact h2
  · intro h
    refine List.ext_getElem (by first | (simp [low, hl, hw]; done) | (simp [low, hl, hw]; omega)) fun j h1 h2 => ?_
    have hj : j < n := by simp [low] at h1; omega
    have := (key j hj _).2 (like_all b w j (by omega))
    have hjb : j < b.length := by omega
    have hjw : j < w.length := by omega
    simpa [low, List.getD, hjb, hjw] using this
theorem low_inf3 {b : L8} (hl : b.length = 3) : low b = inf3 ↔ 3 ≤ like b infw := low_like (w := infw) (n := 3) (by decide) (fun j hj c => lowc_or8 ⟨j, by omega⟩ c) hl
theorem low_inf8 {b : L8} (hl : b.length = 8) : low b = infw ↔ 8 ≤ like b infw := low_like (w := infw) (n := 8) (by decide) (fun j hj c => lowc_or8 ⟨j, hj⟩ c) hl
theorem low_nan3 {b : L8} (hl : b.length = 3) : low b = nanw ↔ 3 ≤ like b nanw := low_like (w := nanw) (n := 3) (by decide) (fun j hj c => lowc_orn ⟨j, hj⟩ c) hl
theorem low_len {b w : L8} (h : low b = w) : b.length = w.length := by rw [← h]; simp [low]
theorem word_iff {b : L8} : isWord b ↔ (b.length = 3 ∧ 3 ≤ like b infw) ∨ (b.length = 8 ∧ 8 ≤ like b infw) ∨ (b.length = 3 ∧ 3 ≤ like b nanw) := by
  unfold isWord
  constructor
  · rintro ⟨_, (h | h) | h⟩
    · exact .inl ⟨low_len h, (low_inf3 (low_len h)).1 h⟩
    · exact .inr (.inl ⟨low_len h, (low_inf8 (low_len h)).1 h⟩)
    · exact .inr (.inr ⟨low_len h, (low_nan3 (low_len h)).1 h⟩)
  · rintro (⟨h, h2⟩ | ⟨h, h2⟩ | ⟨h, h2⟩)
    · exact ⟨.inl h, .inl (.inl ((low_inf3 h).2 h2))⟩
    · exact ⟨.inr h, .inl (.inr ((low_inf8 h).2 h2))⟩
    · exact ⟨.inl h, .inr ((low_nan3 h).2 h2)⟩
theorem inf_nan {b : L8} (h : 0 < like b infw) : like b nanw = 0 := by
  rcases Nat.eq_zero_or_pos (like b nanw) with h2 | h2
  · exact h2
  · have h3 := like_all b infw 0 h
    have h4 := like_all b nanw 0 h2
    rw [h3] at h4
    exact absurd h4 (by decide)
/-- digits or a point ahead: no word -/
theorem dig_like : ∀ c : UInt8, (isd c = true ∨ c = 46) → ¬ (c ||| 32) = 105 ∧ ¬ (c ||| 32) = 110 := all8 (by decide +kernel)
theorem no_like {b : L8} (h : b = [] ∨ isd (b.getD 0 0) = true ∨ b.getD 0 0 = 46) : like b infw = 0 ∧ like b nanw = 0 := by
  rcases h with rfl | h
  · exact ⟨rfl, rfl⟩
  · have := dig_like _ h
    constructor
    · rcases Nat.eq_zero_or_pos (like b infw) with h2 | h2
      · exact h2
      · exact absurd (like_all b infw 0 h2) this.1
    · rcases Nat.eq_zero_or_pos (like b nanw) with h2 | h2
      · exact h2
      · exact absurd (like_all b nanw 0 h2) this.2
theorem Fs.fr {s R F R' : L8} {a1 : Nat} (ha : a1 ≤ s.length) (e : R = s.drop a1) (h : Fs R F R') : ∃ a, Fr s a1 F a ∧ R' = s.drop a ∧ a ≤ s.length := by
  subst e
  cases h with
  | no h =>
    refine ⟨a1, .no fun h1 h2 => ?_, rfl, ha⟩
    rcases h with h | h
    · have := congrArg List.length h
      rw [List.length_drop] at this
      simp at this
      omega
    · rw [getD_drop] at h
      exact h (p46.1 h2)
  | yes h1 h2 =>
    have hl : a1 < s.length := by
      rcases Nat.lt_or_ge a1 s.length with h | h
      · exact h
      · exact absurd (List.drop_eq_nil_of_le h) h1
    rw [getD_drop] at h2
    have hr := run_drop_le s (a1 + 1) (by omega)
    have e : (s.drop a1).drop 1 = s.drop (a1 + 1) := List.drop_drop
    rw [e]
    refine ⟨a1 + 1 + run (s.drop (a1 + 1)), ?_, ?_, hr⟩
    · have := Fr.yes (t := s) hl (p46.2 h2)
      rw [List.drop_take] at this
      rwa [show a1 + 1 + run (s.drop (a1 + 1)) - (a1 + 1) = run (s.drop (a1 + 1)) from by omega] at this
    · rw [List.drop_drop]
theorem Fr.unique {t : L8} {a b c : Nat} {F G : L8} (h : Fr t a F b) (k : Fr t a G c) : F = G ∧ b = c := by
  cases h with
  | no h =>
    cases k with
    | no _ => exact ⟨rfl, rfl⟩
    | yes h1 h2 => exact absurd h2 (h h1)
  | yes h1 h2 =>
    cases k with
    | no h => exact absurd h2 (h h1)
    | yes _ _ => exact ⟨rfl, rfl⟩
theorem drop_nil {s : L8} {a : Nat} (ha : a ≤ s.length) : s.drop a = [] ↔ a = s.length := by
  rw [List.drop_eq_nil_iff]; omega
theorem sg_drop (s : L8) (a : Nat) (ha : a ≤ s.length) : (s.drop a).drop (sg (s.drop a) 0) = s.drop (sg s a) := by
  rw [List.drop_drop]
  congr 1
  unfold sg sgP
  simp only [List.length_drop, getD_drop, Nat.add_zero]
  by_cases h : a < s.length ∧ (((s.getD a 0).toNat : Int) = 43 ∨ ((s.getD a 0).toNat : Int) = 45)
  · rw [if_pos h, if_pos ⟨by omega, h.2⟩]
  · rw [if_neg h, if_neg (fun h2 => h ⟨by omega, h2.2⟩)]; rfl
theorem e69 : ∀ c : UInt8, ((c ||| 32) = 101 ↔ (c = 101 ∨ c = 69)) := all8 (by decide +kernel)
theorem take_nil {b : L8} : b.take (run b) = [] ↔ run b = 0 := by
  have hle := run_le b
  constructor
  · intro h
    have := congrArg List.length h
    rw [List.length_take, List.length_nil] at this
    omega
  · intro h; rw [h]; rfl
/-- the number that an exponent says -/
def expS (en : Bool) (E : L8) : Int := if en = true then 0 - expo E else expo E
theorem RC.cut {s : L8} {ng en ok : Bool} {wd : Int} {W F E : L8} (h : RC s ng wd W F en E ok) : ∃ ng' wd' W' F' x a, CutR s ng' wd' W' F' x a ok ∧ (ok = true → wd' = wd ∧ W' = W ∧ F' = F ∧ ng = decide (ng' = true ∧ ¬ wd = 2) ∧ x = expS en E) := by
  have h0 := sg_le s (i := 0) (by omega)
  have h1 := run_drop_le s (sg s 0) (by omega)
  have hwhole : (s.take (sg s 0 + run (s.drop (sg s 0)))).drop (sg s 0) = (s.drop (sg s 0)).take (run (s.drop (sg s 0))) := by
    rw [List.drop_take, show sg s 0 + run (s.drop (sg s 0)) - sg s 0 = run (s.drop (sg s 0)) from by omega]
  have hlen : (s.drop (sg s 0)).length = s.length - sg s 0 := List.length_drop
  have hdec : ∀ b : Bool, b = decide (b = true ∧ ¬ (0 : Int) = 2) := fun b => by cases b <;> rfl
  have hwl := whole_len (t := s) (a1 := sg s 0 + run (s.drop (sg s 0))) rfl
  cases h with
  | @inf b eb h hl =>
    subst eb
    have hlk := like_le (s.drop (sg s 0)) infw
    have hp : (s.drop (sg s 0)).length = 3 ∧ 3 ≤ like (s.drop (sg s 0)) infw ∨ (s.drop (sg s 0)).length = 8 ∧ 8 ≤ like (s.drop (sg s 0)) infw := by
      rcases hl with hl | hl
      · exact .inl ⟨low_len hl, (low_inf3 (low_len hl)).1 hl⟩
      · exact .inr ⟨low_len hl, (low_inf8 (low_len hl)).1 hl⟩
    have := CutR.inf (t := s) (by omega)
    rw [decide_eq_true (by omega)] at this
    exact ⟨_, _, _, _, _, _, this, fun _ => ⟨rfl, rfl, rfl, by simp, rfl⟩⟩
  | @nan b eb h hl =>
    subst eb
    have hlk := like_le (s.drop (sg s 0)) nanw
    have h3 := low_len hl
    have h4 := (low_nan3 h3).1 hl
    have h5 : like (s.drop (sg s 0)) infw = 0 := by
      rcases Nat.eq_zero_or_pos (like (s.drop (sg s 0)) infw) with h | h
      · exact h
      · have := inf_nan h; omega
    have := CutR.nan (t := s) h5 (by omega)
    have hn3 : nanw.length = 3 := rfl
    rw [decide_eq_true (by omega)] at this
    exact ⟨_, _, _, _, _, _, this, fun _ => ⟨rfl, rfl, rfl, by simp, rfl⟩⟩
  | @none b F R ng eb hw hf hz =>
    subst eb
    rw [word_iff] at hw
    have hlk := like_le (s.drop (sg s 0)) infw
    have hlk2 := like_le (s.drop (sg s 0)) nanw
    by_cases hi : 0 < like (s.drop (sg s 0)) infw
    · have := CutR.inf (t := s) hi
      rw [decide_eq_false (by omega)] at this
      exact ⟨_, _, _, _, _, _, this, fun h => by cases h⟩
    · by_cases hn : 0 < like (s.drop (sg s 0)) nanw
      · have := CutR.nan (t := s) (by omega) hn
        rw [decide_eq_false (by omega)] at this
        exact ⟨_, _, _, _, _, _, this, fun h => by cases h⟩
      · obtain ⟨a, hfr, _, _⟩ := hf.fr (a1 := sg s 0 + run (s.drop (sg s 0))) h1 (List.drop_drop)
        refine ⟨_, _, _, _, _, _, .none (by omega) (by omega) rfl hfr ?_, fun h => by cases h⟩
        rw [hwl, take_nil.1 hz.1, hz.2]; rfl
  | @plain b F R eb hw hf hz hr =>
    subst eb
    obtain ⟨a, hfr, hR, hal⟩ := hf.fr (a1 := sg s 0 + run (s.drop (sg s 0))) h1 (List.drop_drop)
    have hzz : 0 < ((s.take (sg s 0 + run (s.drop (sg s 0)))).drop (sg s 0)).length + F.length := by
      rw [hwl]
      rcases Nat.eq_zero_or_pos (run (s.drop (sg s 0))) with h | h
      · have : ¬ F = [] := fun h2 => hz ⟨take_nil.2 h, h2⟩
        have := List.length_pos_iff.2 this
        omega
      · omega
    have hnl := no_like (b := s.drop (sg s 0)) (by
      by_cases hr0 : run (s.drop (sg s 0)) = 0
      · have hF : ¬ F = [] := fun h2 => hz ⟨take_nil.2 hr0, h2⟩
        rcases st_fr rfl hfr with ⟨_, h2, _⟩ | ⟨hl, h46, _⟩
        · exact absurd h2 hF
        · right; right
          rw [getD_drop, Nat.add_zero]
          rw [hr0] at h46
          exact h46
      · right; left
        exact (isD_isd _).1 (run_all (s.drop (sg s 0)) 0 (by omega)))
    have := CutR.plain (t := s) hnl.1 hnl.2 rfl hfr hzz (fun h => absurd ((drop_nil hal).1 (hR ▸ hr)) (by omega))
    rw [decide_eq_true (by have := (drop_nil hal).1 (hR ▸ hr); omega)] at this
    exact ⟨_, _, _, _, _, _, this, fun _ => ⟨rfl, hwhole, rfl, hdec _, rfl⟩⟩
  | @rest b F R ng eb hw hf hz hr he =>
    subst eb
    obtain ⟨a, hfr, hR, hal⟩ := hf.fr (a1 := sg s 0 + run (s.drop (sg s 0))) h1 (List.drop_drop)
    have hzz : 0 < ((s.take (sg s 0 + run (s.drop (sg s 0)))).drop (sg s 0)).length + F.length := by
      rw [hwl]
      rcases Nat.eq_zero_or_pos (run (s.drop (sg s 0))) with h | h
      · have : ¬ F = [] := fun h2 => hz ⟨take_nil.2 h, h2⟩
        have := List.length_pos_iff.2 this
        omega
      · omega
    have hnl := no_like (b := s.drop (sg s 0)) (by
      by_cases hr0 : run (s.drop (sg s 0)) = 0
      · have hF : ¬ F = [] := fun h2 => hz ⟨take_nil.2 hr0, h2⟩
        rcases st_fr rfl hfr with ⟨_, h2, _⟩ | ⟨hl, h46, _⟩
        · exact absurd h2 hF
        · right; right
          rw [getD_drop, Nat.add_zero]
          rw [hr0] at h46
          exact h46
      · right; left
        exact (isD_isd _).1 (run_all (s.drop (sg s 0)) 0 (by omega)))
    have hal2 : a < s.length := by
      rcases Nat.lt_or_ge a s.length with h | h
      · exact h
      · exact absurd (hR.trans (List.drop_eq_nil_of_le h)) hr
    have := CutR.plain (t := s) hnl.1 hnl.2 rfl hfr hzz (fun h h2 => by
      have := (e69 _).1 (e101.1 h2)
      rw [hR, getD_drop] at he
      rw [Nat.add_zero] at he
      rcases this with h | h
      · exact he.1 h
      · exact he.2 h)
    rw [decide_eq_false (by omega)] at this
    exact ⟨_, _, _, _, _, _, this, fun h => by cases h⟩
  | @exp b F R E eb hw hf hz hr he eE =>
    subst eb
    obtain ⟨a, hfr, hR, hal⟩ := hf.fr (a1 := sg s 0 + run (s.drop (sg s 0))) h1 (List.drop_drop)
    have hzz : 0 < ((s.take (sg s 0 + run (s.drop (sg s 0)))).drop (sg s 0)).length + F.length := by
      rw [hwl]
      rcases Nat.eq_zero_or_pos (run (s.drop (sg s 0))) with h | h
      · have : ¬ F = [] := fun h2 => hz ⟨take_nil.2 h, h2⟩
        have := List.length_pos_iff.2 this
        omega
      · omega
    have hnl := no_like (b := s.drop (sg s 0)) (by
      by_cases hr0 : run (s.drop (sg s 0)) = 0
      · have hF : ¬ F = [] := fun h2 => hz ⟨take_nil.2 hr0, h2⟩
        rcases st_fr rfl hfr with ⟨_, h2, _⟩ | ⟨hl, h46, _⟩
        · exact absurd h2 hF
        · right; right
          rw [getD_drop, Nat.add_zero]
          rw [hr0] at h46
          exact h46
      · right; left
        exact (isD_isd _).1 (run_all (s.drop (sg s 0)) 0 (by omega)))
    have hal2 : a < s.length := by
      rcases Nat.lt_or_ge a s.length with h | h
      · exact h
      · exact absurd (hR.trans (List.drop_eq_nil_of_le h)) hr
    have heP : eP s a := by
      rw [e101, e69]
      rw [hR, getD_drop, Nat.add_zero] at he
      exact he
    have hR1 : R.drop 1 = s.drop (a + 1) := by rw [hR, List.drop_drop]
    have hE : E = s.drop (sg s (a + 1)) := by rw [eE, hR1, sg_drop s (a + 1) (by omega)]
    have hs4 := sg_le s (i := a + 1) (by omega)
    have hr4 := run_drop_le s (sg s (a + 1)) (by omega)
    have hEl : E.length = s.length - sg s (a + 1) := by rw [hE, List.length_drop]
    have hEr : run E = run (s.drop (sg s (a + 1))) := by rw [hE]
    have hngE : ngb (R.drop 1) = decide (((s.getD (a + 1) 0).toNat : Int) = 45) := by unfold ngb; rw [hR1, getD_drop, Nat.add_zero]
    by_cases hz0 : run E = 0
    · have := CutR.bad (t := s) hnl.1 hnl.2 rfl hfr hzz hal2 heP rfl (by omega)
      rw [decide_eq_false (fun h => h.1 (take_nil.2 hz0))]
      exact ⟨_, _, _, _, _, _, this, fun h => by cases h⟩
    · have := CutR.exp (t := s) (x := expS (ngb (R.drop 1)) (E.take (run E))) hnl.1 hnl.2 rfl hfr hzz hal2 heP rfl hEr (by omega) (by
        rw [hngE, hE]
        unfold expS
        by_cases h : ((s.getD (a + 1) 0).toNat : Int) = 45
        · rw [if_pos h, if_pos (by simpa using h)]
        · rw [if_neg h, if_neg (by simpa using h)])
      have hd : decide (((sg s (a + 1) + run E : Nat) : Int) = (s.length : Int)) = decide (¬ E.take (run E) = [] ∧ E.drop (run E) = []) := by
        have h5 : E.drop (run E) = [] ↔ run E = E.length := drop_nil (run_le E)
        by_cases h : run E = E.length
        · rw [decide_eq_true (by omega), decide_eq_true ⟨fun h6 => hz0 (take_nil.1 h6), h5.2 h⟩]
        · rw [decide_eq_false (by omega), decide_eq_false (fun h6 => h (h5.1 h6.2))]
      rw [hd] at this
      exact ⟨_, _, _, _, _, _, this, fun _ => ⟨rfl, hwhole, rfl, hdec _, rfl⟩⟩
theorem CutR.unique {t : L8} {ng ok ng' ok' : Bool} {wd x a wd' x' a' : Int} {W F W' F' : L8} (h : CutR t ng wd W F x a ok) (k : CutR t ng' wd' W' F' x' a' ok') : ng = ng' ∧ wd = wd' ∧ W = W' ∧ F = F' ∧ x = x' ∧ a = a' ∧ ok = ok' := by
  cases h with
  | inf h => cases k <;> first | (exfalso; omega) | exact ⟨rfl, rfl, rfl, rfl, rfl, rfl, rfl⟩
  | nan h0 h => cases k <;> first | (exfalso; omega) | exact ⟨rfl, rfl, rfl, rfl, rfl, rfl, rfl⟩
  | none h0 h1 e1 hf hz =>
    subst e1
    cases k with
    | inf h => exfalso; omega
    | nan h0 h => exfalso; omega
    | none _ _ e1 hf2 _ => subst e1; obtain ⟨rfl, rfl⟩ := hf.unique hf2; exact ⟨rfl, rfl, rfl, rfl, rfl, rfl, rfl⟩
    | plain _ _ e1 hf2 hz2 _ => subst e1; obtain ⟨rfl, rfl⟩ := hf.unique hf2; exfalso; omega
    | bad _ _ e1 hf2 hz2 _ => subst e1; obtain ⟨rfl, rfl⟩ := hf.unique hf2; exfalso; omega
    | exp _ _ e1 hf2 hz2 _ => subst e1; obtain ⟨rfl, rfl⟩ := hf.unique hf2; exfalso; omega
  | plain h0 h1 e1 hf hz he =>
    subst e1
    cases k with
    | inf h => exfalso; omega
    | nan h0 h => exfalso; omega
    | none _ _ e1 hf2 hz2 => subst e1; obtain ⟨rfl, rfl⟩ := hf.unique hf2; exfalso; omega
    | plain _ _ e1 hf2 hz2 _ => subst e1; obtain ⟨rfl, rfl⟩ := hf.unique hf2; exact ⟨rfl, rfl, rfl, rfl, rfl, rfl, rfl⟩
    | bad _ _ e1 hf2 hz2 ha2 he2 _ _ => subst e1; obtain ⟨rfl, rfl⟩ := hf.unique hf2; exact absurd he2 (he ha2)
    | exp _ _ e1 hf2 hz2 ha2 he2 _ _ _ _ => subst e1; obtain ⟨rfl, rfl⟩ := hf.unique hf2; exact absurd he2 (he ha2)
  | bad h0 h1 e1 hf hz ha he e4 hr =>
    subst e1 e4
    cases k with
    | inf h => exfalso; omega
    | nan h0 h => exfalso; omega
    | none _ _ e1 hf2 hz2 => subst e1; obtain ⟨rfl, rfl⟩ := hf.unique hf2; exfalso; omega
    | plain _ _ e1 hf2 hz2 he2 => subst e1; obtain ⟨rfl, rfl⟩ := hf.unique hf2; exact absurd he (he2 ha)
    | bad _ _ e1 hf2 _ _ _ e4 _ => subst e1 e4; obtain ⟨rfl, rfl⟩ := hf.unique hf2; exact ⟨rfl, rfl, rfl, rfl, rfl, rfl, rfl⟩
    | exp _ _ e1 hf2 _ _ _ e4 hj hr2 _ => subst e1; obtain ⟨rfl, rfl⟩ := hf.unique hf2; subst e4; exfalso; omega
  | exp h0 h1 e1 hf hz ha he e4 hj hr hx =>
    subst e1 e4 hj hx
    cases k with
    | inf h => exfalso; omega
    | nan h0 h => exfalso; omega
    | none _ _ e1 hf2 hz2 => subst e1; obtain ⟨rfl, rfl⟩ := hf.unique hf2; exfalso; omega
    | plain _ _ e1 hf2 hz2 he2 => subst e1; obtain ⟨rfl, rfl⟩ := hf.unique hf2; exact absurd he (he2 ha)
    | bad _ _ e1 hf2 _ _ _ e4 hr2 => subst e1; obtain ⟨rfl, rfl⟩ := hf.unique hf2; subst e4; exfalso; omega
    | exp _ _ e1 hf2 _ _ _ e4 hj hr2 hx => subst e1; obtain ⟨rfl, rfl⟩ := hf.unique hf2; subst e4 hj hx; exact ⟨rfl, rfl, rfl, rfl, rfl, rfl, rfl⟩
theorem RC.state {s : L8} {ng en ok : Bool} {wd : Int} {W F E : L8} (h : RC s ng wd W F en E ok) : ok = acc (go 0 s) := by
  obtain ⟨_, _, _, _, _, _, hc, _⟩ := h.cut
  obtain ⟨_, _, _, _, _, hok⟩ := hc.state
  exact hok

end Go.Proofs.Ytjkaahnadaapoaa.W
