/- plain laws of the gate: who builds, what was asked for; no move means the end -/
import Derived.Test.YtgfkagaacdblbaaGreatYv
set_option linter.unusedVariables false
set_option linter.unusedSimpArgs false
set_option maxRecDepth 10000
namespace Go.Proofs.YtgfkagaacdblbaaGreat.W
open Go.Vc Go.RowKit
structure Lv (ls : List (List Int)) (G : GW) : Prop where
 len : G.hs.length = ls.length
 ask : ∀ (i : Nat) (h : Hd), G.hs[i]? = some h → ls[i]? = some h.asks
 bl : ∀ (s : Nat), s < 41 → (sgN G s).built = 1 → (sgN G s).done = false → ∃ (i : Nat) (h : Hd), G.hs[i]? = some h ∧ (h.line = 2 ∨ h.line = 3) ∧ Z0x h = s
 ak : ∀ (s : Nat), s < 41 → (sgN G s).built = 1 → ∃ (l : List Int) (q : Int), l ∈ ls ∧ q ∈ l ∧ (Z0K q).1.toNat = s
theorem Lv.step {ls : List (List Int)} {G : GW} {i : Nat} (hw : Wf G) (hl : Lv ls G) (hm : mayG G i = true) : Lv ls (Z1S G i) := by
 obtain ⟨h, h', y', hi, hih, hv, e⟩ := Z3D hm
 rw [e]
 have hb := Z1G h
 have ho := hw.hd i h hih
 have hsl : Z0x h < G.sg.length := by rw [hw.sg]; exact hb.2
 obtain ⟨s, hs⟩ : ∃ s, Z0x h = s := ⟨_, rfl⟩
 obtain ⟨y, hy⟩ : ∃ y, sgN G (Z0x h) = y := ⟨_, rfl⟩
 have hb2 := ho.b2
 have hb3 := ho.b3
 rw [hy] at hv hb2 hb3
 have hsg : ∀ t, sgN ⟨G.hs.set i h', G.sg.set (Z0x h) y', (i + 1) % G.hs.length⟩ t = if t = s then y' else sgN G t := fun t => by
  rw [hs]; exact Z4C (by rw [← hs]; exact hsl) y' _ t
 have hhs : ∀ j, (G.hs.set i h')[j]? = if j = i then some h' else G.hs[j]? := get_set hi h'
 have has : h'.asks = h.asks := by cases hv <;> rfl
 have hasked : y'.built = 1 → ∃ (l : List Int) (q : Int), l ∈ ls ∧ q ∈ l ∧ (Z0K q).1.toNat = s := fun _ => by
  have hnx : h.nx < h.asks.length := ho.nx (by cases hv <;> omega)
  exact ⟨h.asks, h.asks.getD h.nx 0, List.mem_of_getElem? (hl.ask i h hih), by simp [List.getD, hnx], hs⟩
 refine ⟨by simpa using hl.len, fun j k hk => ?_, fun t ht hb1 hd => ?_, fun t ht hb1 => ?_⟩
 ·have hk' : (G.hs.set i h')[j]? = some k := hk
  rw [hhs] at hk'
  split at hk'
  ·rename_i ej
   cases hk'
   rw [has, ej]
   exact hl.ask i h hih
  exact hl.ask j k hk'
 ·rw [hsg] at hb1 hd
  by_cases et : t = s
  ·rw [if_pos et] at hb1 hd
   cases hv with
   | lay hl2 => exact ⟨i, _, by rw [hhs, if_pos rfl], by dsimp only; split <;> simp, by rw [et, ← hs]; rfl⟩
   | «show» hl3 => cases hd
   | take hl1 _ _ => exact ⟨i, _, by rw [hhs, if_pos rfl], .inl rfl, by rw [et, ← hs]; rfl⟩
   | read hl1 hd1 => rw [hd1] at hd; cases hd
  rw [if_neg et] at hb1 hd
  obtain ⟨j, k, hk, hkl, hkw⟩ := hl.bl t ht hb1 hd
  have hji : j ≠ i := fun ej => by
   subst ej
   rw [hih] at hk
   cases hk
   exact et (hkw.symm.trans hs)
  exact ⟨j, k, by rw [hhs, if_neg hji]; exact hk, hkl, hkw⟩
 rw [hsg] at hb1
 by_cases et : t = s
 ·rw [if_pos et] at hb1
  rw [et]
  exact hasked hb1
 rw [if_neg et] at hb1
 exact hl.ak t ht hb1
theorem no_move {ls : List (List Int)} {G : GW} (hw : Wf G) (hl : Lv ls G) (h : ∀ i, i < G.hs.length → mayG G i = false) (i : Nat) (hd : Hd) (hi : G.hs[i]? = some hd) : hd.line = 4 := by
 have hmay : ∀ (j : Nat) (k : Hd), G.hs[j]? = some k → mayH k (sgN G (Z0x k)) = false := fun j k hk => by
  have := h j (List.getElem?_eq_some_iff.1 hk).1
  unfold mayG at this
  rw [hk] at this
  exact this
 have h23 : ∀ (j : Nat) (k : Hd), G.hs[j]? = some k → ¬ (k.line = 2 ∨ k.line = 3) := fun j k hk hc => by
  have := hmay j k hk
  unfold mayH at this
  rw [if_neg ZO] at this
  simp at this
  omega
 rcases (hw.hd i hd hi).line with h1 | h1 | h1 | h1
 ·exfalso
  have hm := hmay i hd hi
  unfold mayH at hm
  rw [if_pos h1] at hm
  simp at hm
  have hb := Z1G hd
  have hok := hw.sok _ _ (hw.at hb.2)
  have hb1 : (sgN G (Z0x hd)).built = 1 := by
   rcases hok with h | h | h
   ·exact absurd h.1 hm.2
   ·exact h.1
   exact h.1
  obtain ⟨j, k, hk, hkl, _⟩ := hl.bl _ hb.2 hb1 hm.1
  exact h23 j k hk hkl
 ·exact absurd (.inl h1) (h23 i hd hi)
 ·exact absurd (.inr h1) (h23 i hd hi)
 exact h1
theorem Z3l {G : GW} : Z0A G = [] ↔ ∀ i, i < G.hs.length → mayG G i = false := by
 unfold Z0A Z1r
 rw [List.filter_eq_nil_iff]
 constructor
 ·intro h i hi
  simpa using h i (List.mem_range.2 hi)
 intro h i hi
 rw [h i (List.mem_range.1 hi)]
 simp
theorem over_of {G : GW} (h : ∀ (i : Nat) (hd : Hd), G.hs[i]? = some hd → hd.line = 4) : overG G = true := by
 unfold overG
 rw [List.all_eq_true]
 intro hd hm
 obtain ⟨i, hi, rfl⟩ := List.mem_iff_getElem.1 hm
 simpa using h i _ (List.getElem?_eq_getElem hi)
structure Iv (ls : List (List Int)) (G : GW) : Prop where
 wf : Wf G
 lv : Lv ls G
 fr : G.fr < G.hs.length ∨ G.fr = 0
theorem Iv.step {ls : List (List Int)} {G : GW} {i : Nat} (h : Iv ls G) (hm : mayG G i = true) (hi : i < G.hs.length) : Iv ls (Z1S G i) := by
 refine ⟨h.wf.step hm, h.lv.step h.wf hm, .inl ?_⟩
 obtain ⟨e1, e2⟩ := stepG_eq hi
 rw [e1, e2]
 exact Nat.mod_lt _ ZO
theorem Iv.doRes {ls : List (List Int)} {G : GW} {k : Int} (h : Iv ls G) : Iv ls (doRes G k).2 := by
 unfold W.doRes
 split
 ·show Iv ls (Z1E G k.toNat)
  unfold Z1E
  split
  ·rename_i i hi
   obtain ⟨h1, h2⟩ := Z2O (List.mem_of_getElem? hi)
   exact h.step h2 h1
  exact h
 exact h
theorem Z2r.phi {G0 G : GW} {l : List Int} {k : Nat} (hw : Wf G0) (h : Z2r G0 l k G) : k + phiG G ≤ phiG G0 := by
 induction h with
 | zero => omega
 | succ h hm hp ih =>
  obtain ⟨i, _, e, h1, h2⟩ := Z3a hm
  have := Z3S (h.wf hw) h2
  rw [e]
  omega
theorem Iv.over {ls : List (List Int)} {G : GW} (h : Iv ls G) : overG G = true ↔ Z0A G = [] := by
 constructor
 ·intro ho
  rw [Z3l]
  intro i hi
  unfold overG at ho
  rw [List.all_eq_true] at ho
  have h4 := ho G.hs[i] (List.getElem_mem hi)
  unfold mayG
  rw [List.getElem?_eq_getElem hi]
  have h4 : (G.hs[i]).line = 4 := by simpa using h4
  show mayH _ _ = false
  unfold mayH
  rw [if_neg ZO]
  simp
  omega
 intro hm
 exact over_of (no_move h.wf h.lv (Z3l.1 hm))
theorem Iv.read {ls : List (List Int)} {G : GW} (h : Iv ls G) (hm : Z0A G = []) {i : Nat} {l : List Int} (hl : ls[i]? = some l) : Z2J G (i : Int) = Z0Y l := by
 have hi : i < G.hs.length := by rw [h.lv.len]; exact (List.getElem?_eq_some_iff.1 hl).1
 have hg := List.getElem?_eq_getElem hi
 have h4 := no_move h.wf h.lv (Z3l.1 hm) i _ hg
 have hen := (h.wf.hd i _ hg).en h4
 have ha := h.lv.ask i _ hg
 rw [hl] at ha
 have ha : l = (G.hs[i]).asks := by simpa using ha
 unfold Z2J
 rw [if_pos ZO, show ((i : Nat) : Int).toNat = i from rfl, hg]
 dsimp only
 rw [hen, List.take_length, ← ha]
def askedS (ls : List (List Int)) (s : Nat) : Prop := ∃ l ∈ ls, ∃ q ∈ l, (Z0K q).1.toNat = s
theorem Iv.built {ls : List (List Int)} {G : GW} (h : Iv ls G) (hm : Z0A G = []) {s : Nat} (hs : s < 41) : (askedS ls s ∧ (sgN G s).built = 1 ∧ (sgN G s).done = true) ∨ (¬ askedS ls s ∧ (sgN G s).built = 0 ∧ (sgN G s).done = false) := by
 have hok := h.wf.sok _ _ (h.wf.at hs)
 by_cases ha : askedS ls s
 ·refine .inl ⟨ha, ?_⟩
  obtain ⟨l, hl, q, hq, hw⟩ := ha
  obtain ⟨i, hi, rfl⟩ := List.mem_iff_getElem.1 hl
  have hi2 : i < G.hs.length := by rw [h.lv.len]; exact hi
  have hg := List.getElem?_eq_getElem hi2
  have h4 := no_move h.wf h.lv (Z3l.1 hm) i _ hg
  have ho := h.wf.hd i _ hg
  have hen := ho.en h4
  have hask := h.lv.ask i _ hg
  rw [List.getElem?_eq_getElem hi] at hask
  have hask : ls[i] = (G.hs[i]).asks := by simpa using hask
  rw [hask] at hq
  obtain ⟨k, hk, rfl⟩ := List.mem_iff_getElem.1 hq
  have hd := ho.dn k ZO
  rw [show (G.hs[i]).asks.getD k 0 = (G.hs[i]).asks[k] by simp [List.getD, hk], hw] at hd
  refine ⟨?_, hd⟩
  rcases hok with h1 | h1 | h1
  ·rw [h1.2.2] at hd; cases hd
  ·rw [h1.2.1] at hd; cases hd
  exact h1.1
 refine .inr ⟨ha, ?_⟩
 rcases hok with h1 | h1 | h1
 ·exact ⟨h1.1, h1.2.2⟩
 ·obtain ⟨l, q, h2, h3, h4⟩ := h.lv.ak s hs h1.1
  exact absurd ⟨l, h2, q, h3, h4⟩ ha
 obtain ⟨l, q, h2, h3, h4⟩ := h.lv.ak s hs h1.1
 exact absurd ⟨l, h2, q, h3, h4⟩ ha
end Go.Proofs.YtgfkagaacdblbaaGreat.W
