/- plain facts: numbers that are written down are read as they are -/
import Derived.Test.YtjkaahnadaapoaaSi
set_option linter.unusedVariables false
set_option linter.unusedSimpArgs false
set_option maxRecDepth 10000
namespace Go.Proofs.Ytjkaahnadaapoaa.W
open Go.Vc Go.RowKit

def Sgn (z : L8) (neg : Bool) : Prop := (z = [] ∧ neg = false) ∨ (z = [43] ∧ neg = false) ∨ (z = [45] ∧ neg = true)
theorem dig_nosgn : ∀ c : UInt8, isd c = true → sgn c = false := all8 (by decide +kernel)
theorem run_app {W R : L8} (hW : ∀ c ∈ W, isD c) (hR : R = [] ∨ isd (R.getD 0 0) = false) : run (W ++ R) = W.length := by
  refine run_is _ _ (fun j hj => ?_) (by simp) (fun h => ?_)
  · have : (W ++ R).getD j 0 = W.getD j 0 := by simp [List.getD, List.getElem?_append_left hj]
    rw [this]; exact hW _ (getD_mem hj)
  · have e : (W ++ R).getD W.length 0 = R.getD 0 0 := by
      unfold List.getD
      rw [List.getElem?_append_right (Nat.le_refl _), Nat.sub_self]
    rw [e, isD_isd]
    rcases hR with rfl | hR
    · simp at h
    · rw [hR]; decide
theorem sg_app {z r : L8} {neg : Bool} (hz : Sgn z neg) (hr : r = [] ∨ sgn (r.getD 0 0) = false) : sg (z ++ r) 0 = z.length ∧ ngb (z ++ r) = neg := by
  rcases hz with ⟨rfl, rfl⟩ | ⟨rfl, rfl⟩ | ⟨rfl, rfl⟩
  · have h1 : ¬ (0 < r.length ∧ sgP r 0) := fun h => by
      rcases hr with rfl | hr
      · simp at h
      · have := (sgP_sgn r 0).1 h.2; rw [hr] at this; cases this
    refine ⟨sg_no h1, ?_⟩
    unfold ngb
    rw [decide_eq_false_iff_not]
    intro e
    rcases hr with rfl | hr
    · simp at e
    · have e2 : r.getD 0 0 = 45 := (u8_eq (d := 45)).1 e
      simp only [List.nil_append] at e
      rw [e2] at hr
      cases hr
  · refine ⟨sg_yes (by simp) (.inl rfl), ?_⟩
    show decide (((43 : UInt8).toNat : Int) = 45) = false
    decide
  · refine ⟨sg_yes (by simp) (.inr rfl), ?_⟩
    show decide (((45 : UInt8).toNat : Int) = 45) = true
    decide
/-- a number that is written down: sign, digits, a point and digits, an exponent -/
structure Form (s : L8) (neg : Bool) (W F : L8) (x : Int) : Prop where
  ex : ∃ z pt ex : L8, Sgn z neg ∧ (∀ c ∈ W, isD c) ∧ (∀ c ∈ F, isD c) ∧ (W ≠ [] ∨ F ≠ []) ∧ ((pt = [] ∧ F = []) ∨ pt = [46]) ∧
    ((ex = [] ∧ x = 0) ∨ ∃ (c : UInt8) (zE E : L8) (en : Bool), ex = c :: (zE ++ E) ∧ (c = 101 ∨ c = 69) ∧ Sgn zE en ∧ (∀ d ∈ E, isD d) ∧ E ≠ [] ∧ x = expS en E) ∧ s = z ++ (W ++ (pt ++ (F ++ ex)))
theorem ne_getD {W R : L8} (h : W ≠ []) : (W ++ R).getD 0 0 = W.getD 0 0 := by
  cases W with
  | nil => exact absurd rfl h
  | cons c W => rfl
theorem Form.rc {s : L8} {neg : Bool} {W F : L8} {x : Int} (h : Form s neg W F x) : ∃ en E, RC s neg 0 W F en E true ∧ x = expS en E := by
  obtain ⟨z, pt, ex, hz, hW, hF, hne, hpt, hex, rfl⟩ := h.ex
  have hex0 : ex = [] ∨ (isd (ex.getD 0 0) = false ∧ ¬ ex.getD 0 0 = 46) := by
    rcases hex with ⟨rfl, _⟩ | ⟨c, zE, E, en, rfl, hc, _⟩
    · exact .inl rfl
    · right
      rcases hc with rfl | rfl
      · exact ⟨show isd (101 : UInt8) = false from by decide, show ¬ (101 : UInt8) = 46 from by decide⟩
      · exact ⟨show isd (69 : UInt8) = false from by decide, show ¬ (69 : UInt8) = 46 from by decide⟩
  -- what follows the digits ahead
  have hR0 : pt ++ (F ++ ex) = [] ∨ isd ((pt ++ (F ++ ex)).getD 0 0) = false := by
    rcases hpt with ⟨rfl, rfl⟩ | rfl
    · rcases hex0 with h | h
      · exact .inl (by simp [h])
      · exact .inr (by simpa using h.1)
    · exact .inr (show isd (46 : UInt8) = false from by decide)
  have hrunW := run_app hW hR0
  -- the first byte behind the sign
  have hb0 : isd ((W ++ (pt ++ (F ++ ex))).getD 0 0) = true ∨ (W ++ (pt ++ (F ++ ex))).getD 0 0 = 46 := by
    by_cases hw : W = []
    · subst hw
      rcases hpt with ⟨_, hf⟩ | rfl
      · rcases hne with h | h
        · exact absurd rfl h
        · exact absurd hf h
      · exact .inr rfl
    · rw [ne_getD hw]
      exact .inl ((isD_isd _).1 (hW _ (getD_mem (List.length_pos_iff.2 hw))))
  have hns : sgn ((W ++ (pt ++ (F ++ ex))).getD 0 0) = false := by
    rcases hb0 with h | h
    · exact dig_nosgn _ h
    · rw [h]; decide
  obtain ⟨hsg, hng⟩ := sg_app hz (.inr hns)
  have eb : W ++ (pt ++ (F ++ ex)) = (z ++ (W ++ (pt ++ (F ++ ex)))).drop (sg (z ++ (W ++ (pt ++ (F ++ ex)))) 0) := by rw [hsg, List.drop_left]
  have hword : ¬ isWord (W ++ (pt ++ (F ++ ex))) := fun h => by
    rw [word_iff] at h
    have := no_like (b := W ++ (pt ++ (F ++ ex))) (.inr hb0)
    omega
  have htk : (W ++ (pt ++ (F ++ ex))).take (run (W ++ (pt ++ (F ++ ex)))) = W := by rw [hrunW, List.take_left]
  have hdr : (W ++ (pt ++ (F ++ ex))).drop (run (W ++ (pt ++ (F ++ ex)))) = pt ++ (F ++ ex) := by rw [hrunW, List.drop_left]
  have hfs : Fs ((W ++ (pt ++ (F ++ ex))).drop (run (W ++ (pt ++ (F ++ ex))))) F ex := by
    rw [hdr]
    rcases hpt with ⟨rfl, rfl⟩ | rfl
    · simp only [List.nil_append]
      exact .no (hex0.imp id fun h => h.2)
    · have h1 := Fs.yes (R := [46] ++ (F ++ ex)) (by simp) rfl
      have h2 : ([46] ++ (F ++ ex)).drop 1 = F ++ ex := rfl
      have hrunF := run_app hF (hex0.imp id fun h => h.1)
      rw [h2, hrunF, List.take_left, List.drop_left] at h1
      exact h1
  have hzz : ¬ ((W ++ (pt ++ (F ++ ex))).take (run (W ++ (pt ++ (F ++ ex)))) = [] ∧ F = []) := by
    rw [htk]
    rintro ⟨h1, h2⟩
    rcases hne with h | h
    · exact h h1
    · exact h h2
  rcases hex with ⟨rfl, rfl⟩ | ⟨c, zE, E, en, rfl, hc, hzE, hE, hE0, rfl⟩
  · refine ⟨false, [], ?_, rfl⟩
    have := RC.plain eb hword hfs hzz rfl
    rw [hng, htk] at this
    exact this
  · have hEs : E = [] ∨ sgn (E.getD 0 0) = false := .inr (dig_nosgn _ ((isD_isd _).1 (hE _ (getD_mem (List.length_pos_iff.2 hE0)))))
    obtain ⟨hs1, hn1⟩ := sg_app hzE hEs
    have hd1 : (c :: (zE ++ E)).drop 1 = zE ++ E := rfl
    have hrunE : run E = E.length := by have := run_app hE (R := []) (.inl rfl); rwa [List.append_nil] at this
    have := RC.exp (E := E) eb hword hfs hzz (by simp) hc (by rw [hd1, hs1, List.drop_left])
    rw [hng, htk, hd1, hn1, hrunE, List.take_length, List.drop_length, decide_eq_true ⟨hE0, rfl⟩] at this
    exact ⟨en, E, this, rfl⟩
theorem Form.read {s : L8} {neg : Bool} {W F : L8} {x : Int} (h : Form s neg W F x) (hl : s.length ≤ 1024) : ReadR s neg 0 W F x 0 0 := by
  obtain ⟨en, E, hc, rfl⟩ := h.rc
  obtain ⟨ng', hr, hng⟩ := hc.read hl
  have : neg = ng' := by rw [hng]; cases ng' <;> rfl
  rw [this]
  exact hr
/-- what a number says, by its digits -/
def numG (neg : Bool) (L : L8) (fl : Nat) (x : Int) : Bool × Int × Int × Int × Bool × Int × Int :=
  if L = [] then (neg, 0, 0, 0, false, 0, 0) else (neg, 0, pv (L.take (L.length - (L.length - 19))), x - fl + ((L.length - 19 : Nat) : Int), (L.drop (L.length - (L.length - 19))).any (fun c => !decide (c = 48)), 0, 0)
theorem ScanR.form {t : L8} {ng more neg : Bool} {wd man x p e x0 : Int} {W F : L8} (h : ScanR t ng wd man x more p e) (hf : Form t neg W F x0) (hl : t.length ≤ 1024) : (ng, wd, man, x, more, p, e) = numG neg (skip0 (W ++ F)) F.length x0 := by
  have hr := hf.read hl
  unfold numG
  cases h with
  | err hr2 he => obtain ⟨_, _, _, _, _, _, h⟩ := hr2.unique hr; exact absurd h he
  | nil hr2 hn =>
    obtain ⟨rfl, rfl, rfl, rfl, rfl, _⟩ := hr2.unique hr
    rcases hn with h | h
    · exact absurd rfl h
    · rw [if_pos h]
      congr 1
      simp
  | num hr2 hne hn =>
    obtain ⟨rfl, _, rfl, rfl, rfl, _⟩ := hr2.unique hr
    rw [if_neg hne, ← hn]
theorem skip0_zeros (k : Nat) (l : L8) : skip0 (List.replicate k 48 ++ l) = skip0 l := by
  induction k with
  | zero => rfl
  | succ k ih => rw [List.replicate_succ, List.cons_append]; rw [show skip0 (48 :: (List.replicate k 48 ++ l)) = skip0 (List.replicate k 48 ++ l) from by simp [skip0], ih]
theorem expo_pv : ∀ (n : Nat) (l : L8), l.length = n → (∀ x ∈ l, isD x) → expo l = min (pv l) 99999
  | 0, l, h, _ => by
    obtain rfl := List.eq_nil_of_length_eq_zero h
    decide
  | n + 1, l, h, hd => by
    have hne : l ≠ [] := by intro e; subst e; simp at h
    have e := List.dropLast_concat_getLast hne
    have hd' : ∀ x ∈ l.dropLast, isD x := fun x hx => hd x ((List.dropLast_sublist l).subset hx)
    have ih := expo_pv n l.dropLast (by simp [h]) hd'
    have hb := (pv_bounds n l.dropLast (by simp [h]) hd').1
    have hl := (hd _ (List.getLast_mem hne)).le
    rw [← e, expo_snoc, pv_snoc, ih]
    omega
theorem dig_isD {r : Int} (h : 0 ≤ r ∧ r ≤ 9) : isD (dig r) := by
  have := dig_toNat h
  unfold isD
  omega
theorem dt0_fact : ∀ (m n : Nat), n ≤ m → (∀ x ∈ dt0 n, isD x) ∧ pv (dt0 n) = n ∧ (dt0 n).length ≤ n
  | m, 0, _ => by rw [dt0_zero]; simp [pv]
  | 0, n + 1, h => by omega
  | m + 1, n + 1, h => by
    have ih := dt0_fact m ((n + 1) / 10) (by omega)
    rw [dt0, dif_neg (by omega)]
    have hd := dig_toNat (r := (((n + 1) % 10 : Nat) : Int)) (by omega)
    refine ⟨fun x hx => ?_, ?_, ?_⟩
    · rcases List.mem_append.1 hx with h1 | h1
      · exact ih.1 x h1
      · rw [List.mem_singleton.1 h1]; exact dig_isD (by omega)
    · rw [pv_snoc, ih.2.1, hd]; omega
    · rw [List.length_append]; have := ih.2.2; simp only [List.length_singleton]; omega
theorem dtx_fact {n : Int} (h : 0 ≤ n) : (∀ x ∈ dtx n, isD x) ∧ pv (dtx n) = n ∧ dtx n ≠ [] ∧ (dtx n).length ≤ n.toNat + 1 := by
  unfold dtx
  split
  · rename_i e
    subst e
    exact ⟨fun x hx => by rw [List.mem_singleton.1 hx]; decide, by decide, by simp, by simp⟩
  · have := dt0_fact n.toNat n.toNat (Nat.le_refl _)
    exact ⟨this.1, by rw [this.2.1]; omega, dt0_ne (by omega), by omega⟩
/-- digits as the statements write them -/
def dgs (b : L8) : L8 := (b.take 40).map fun c => 48 + c % 10
theorem dgs_isD (b : L8) : ∀ x ∈ dgs b, isD x := fun x hx => by
  obtain ⟨c, _, rfl⟩ := List.mem_map.1 hx
  have key : ∀ c : UInt8, isd (48 + c % 10) = true := all8 (by decide +kernel)
  exact (isD_isd _).2 (key c)
theorem dgs_len (b : L8) : (dgs b).length ≤ 40 := by unfold dgs; rw [List.length_map, List.length_take]; omega
def whl (w b : L8) : L8 := if dgs w = [] ∧ dgs b = [] then [48] else dgs w
theorem whl_isD (w b : L8) : ∀ x ∈ whl w b, isD x := by
  unfold whl
  split
  · intro x hx; rw [List.mem_singleton.1 hx]; decide
  · exact dgs_isD w
theorem whl_ne (w b : L8) : whl w b ≠ [] ∨ dgs b ≠ [] := by
  unfold whl
  split
  · simp
  · rename_i h
    by_cases h1 : dgs w = []
    · exact .inr fun h2 => h ⟨h1, h2⟩
    · exact .inl h1
theorem whl_len (w b : L8) : (whl w b).length ≤ 40 := by
  unfold whl
  split
  · simp
  · exact dgs_len w
def exT (x : Int) (great plus : Bool) : L8 := (if great = true then [69] else [101]) ++ (if x < 0 then [45] ++ dtx (0 - x) else (if plus = true then [43] else []) ++ dtx x)
def sgT (neg plus : Bool) : L8 := if neg = true then [45] else if plus = true then [43] else []
def ptT (b : L8) (point : Bool) : L8 := if point = true ∨ ¬ dgs b = [] then [46] ++ dgs b else []
def txT (w b : L8) (x : Int) (neg point plus great : Bool) : L8 := sgT neg plus ++ whl w b ++ ptT b point ++ (if x = 0 then [] else exT x great plus)
theorem exT_len {x : Int} (h : -30000 < x ∧ x < 30000) (g p : Bool) : (exT x g p).length ≤ 30010 := by
  have h1 := fun n h => (dtx_fact (n := n) h).2.2.2
  unfold exT
  by_cases hx : x < 0
  · have := h1 (0 - x) (by omega)
    rw [if_pos hx, List.length_append, List.length_append]
    cases g <;> simp only [List.length_singleton, if_true, if_false, Bool.false_eq_true] <;> omega
  · have := h1 x (by omega)
    rw [if_neg hx, List.length_append, List.length_append]
    cases g <;> cases p <;> simp only [List.length_singleton, List.length_nil, if_true, if_false, Bool.false_eq_true] <;> omega
theorem exT_form {x : Int} (h : -30000 < x ∧ x < 30000) (h0 : ¬ x = 0) (g p : Bool) : ∃ (c : UInt8) (zE E : L8) (en : Bool), exT x g p = c :: (zE ++ E) ∧ (c = 101 ∨ c = 69) ∧ Sgn zE en ∧ (∀ d ∈ E, isD d) ∧ E ≠ [] ∧ x = expS en E := by
  obtain ⟨c, hc, hc2⟩ : ∃ c : UInt8, (if g = true then [69] else [101]) = [c] ∧ (c = 101 ∨ c = 69) := by
    cases g
    · exact ⟨101, rfl, .inl rfl⟩
    · exact ⟨69, rfl, .inr rfl⟩
  unfold exT
  rw [hc]
  by_cases hx : x < 0
  · have hf := dtx_fact (n := 0 - x) (by omega)
    rw [if_pos hx]
    refine ⟨c, [45], _, true, rfl, hc2, .inr (.inr ⟨rfl, rfl⟩), hf.1, hf.2.2.1, ?_⟩
    unfold expS
    rw [if_pos rfl, expo_pv _ _ rfl hf.1, hf.2.1]
    omega
  · have hf := dtx_fact (n := x) (by omega)
    rw [if_neg hx]
    have hv : x = expS false (dtx x) := by
      unfold expS
      rw [if_neg (by decide), expo_pv _ _ rfl hf.1, hf.2.1]
      omega
    cases p
    · exact ⟨c, [], _, false, rfl, hc2, .inl ⟨rfl, rfl⟩, hf.1, hf.2.2.1, hv⟩
    · exact ⟨c, [43], _, false, rfl, hc2, .inr (.inl ⟨rfl, rfl⟩), hf.1, hf.2.2.1, hv⟩
theorem ptT_form (b : L8) (point : Bool) : ∃ pt, ptT b point = pt ++ dgs b ∧ ((pt = [] ∧ dgs b = []) ∨ pt = [46]) := by
  unfold ptT
  split
  · exact ⟨[46], rfl, .inr rfl⟩
  · rename_i h
    have : dgs b = [] := Classical.not_not.1 fun h2 => h (.inr h2)
    exact ⟨[], by rw [this]; rfl, .inl ⟨rfl, this⟩⟩
/-- a number with any sign's spelling and any noughts ahead -/
theorem tx_form (w b : L8) {x : Int} (h : -30000 < x ∧ x < 30000) (z : L8) {neg : Bool} (hz : Sgn z neg) (k : Nat) (point plus great : Bool) : Form (z ++ (List.replicate k 48 ++ whl w b ++ ptT b point ++ (if x = 0 then [] else exT x great plus))) neg (List.replicate k 48 ++ whl w b) (dgs b) x := by
  obtain ⟨pt, ept, hpt⟩ := ptT_form b point
  refine ⟨z, pt, (if x = 0 then [] else exT x great plus), hz, fun c hc => ?_, dgs_isD b, ?_, hpt, ?_, ?_⟩
  · rcases List.mem_append.1 hc with h1 | h1
    · rw [(List.mem_replicate.1 h1).2]; decide
    · exact whl_isD w b c h1
  · rcases whl_ne w b with h1 | h1
    · exact .inl (by simp [h1])
    · exact .inr h1
  · by_cases h0 : x = 0
    · rw [if_pos h0]; exact .inl ⟨rfl, h0⟩
    · rw [if_neg h0]; exact .inr (exT_form h h0 great plus)
  · rw [ept]; simp only [List.append_assoc]
theorem tx_eq (w b : L8) (x : Int) (neg point plus great : Bool) : txT w b x neg point plus great = sgT neg plus ++ (List.replicate 0 48 ++ whl w b ++ ptT b point ++ (if x = 0 then [] else exT x great plus)) := by
  unfold txT
  simp only [List.replicate_zero, List.nil_append, List.append_assoc]
theorem sgT_sgn (neg plus : Bool) : Sgn (sgT neg plus) neg := by
  cases neg <;> cases plus
  · exact .inl ⟨rfl, rfl⟩
  · exact .inr (.inl ⟨rfl, rfl⟩)
  · exact .inr (.inr ⟨rfl, rfl⟩)
  · exact .inr (.inr ⟨rfl, rfl⟩)
theorem tmod_bd (x : Int) : -30000 < x.tmod 30000 ∧ x.tmod 30000 < 30000 := by
  have h1 := Int.tmod_lt_of_pos x (show (0 : Int) < 30000 by omega)
  have h2 := Int.lt_tmod_of_pos x (show (0 : Int) < 30000 by omega)
  exact ⟨by omega, h1⟩

end Go.Proofs.Ytjkaahnadaapoaa.W
