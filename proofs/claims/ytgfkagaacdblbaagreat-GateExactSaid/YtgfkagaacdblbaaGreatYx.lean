/- the law GateAlike -/
import Derived.Test.YtgfkagaacdblbaaGreatYw
set_option linter.unusedVariables false
set_option linter.unusedSimpArgs false
set_option maxRecDepth 10000
namespace Go.Proofs.YtgfkagaacdblbaaGreat.W
open Go.Vc Go.RowKit Tryz
theorem xs_iv {w : World} {xs : List (Value × List Int)} {ls : List (List Int)} (h : (As.sep (xs.map fun p : Value × List Int => As.ri 3 .i64 p.1 p.2)).ok w) (hx : xs.map Prod.snd = ls) : ∀ (j : Nat) (x : Value) (l : List Int), (xs.map Prod.fst)[j]? = some x → ls[j]? = some l → IV w x (ints .i64 l) := fun j x l h1 h2 => by
 subst hx
 rw [List.getElem?_map] at h1 h2
 cases hp : xs[j]? with
 | none => rw [hp] at h1; cases h1
 | some p =>
  rw [hp] at h1 h2
  cases h1
  cases h2
  exact Own.iv (h.1 _ (List.mem_map.2 ⟨p, List.mem_of_getElem? hp, rfl⟩))
theorem okA_rg {ls : List (List Int)} (h : okA ls) : ∀ l ∈ ls, Rg (-9223372036854775808) 9223372036854775807 l ∧ 0 ≤ l.length := fun l hl =>
 ⟨fun q hq => by have := (h.2 l hl).2 q hq; omega, by have := (h.2 l hl).1; omega⟩
theorem xs_len {xs : List (Value × List Int)} {ls : List (List Int)} (hx : xs.map Prod.snd = ls) : (xs.map Prod.fst).length = ls.length := by
 rw [← hx]; simp
theorem argG {w wc : World} {τ σ : List As} {v : Value} {cs : List Value} (hw : St w w.heap.size Z0J (τ ++ σ) wc) (h : IV w v cs) : ∀ w1 : World, (∀ k, k < wc.heap.size → ¬ fps τ k → w1.heap[k]? = wc.heap[k]?) → IV w1 v cs := fun w1 h1 =>
 h.mono fun j hj => (h1 j (Nat.lt_of_lt_of_le hj hw.ext.size) fun ⟨A, hA, hf⟩ => by
  rcases (hw.sep.lt (List.mem_append_left _ hA) j hf).1 with h2 | h2
  ·omega
  exact h2).trans (hw.ext.block j hj (fun e => e))
theorem iv_cutE {w : World} {v : Value} {l : List Int} {n : Nat} (h : IV w v (ints .i64 l)) (hn : n ≤ l.length) : ∃ A c, v = .slice A l.length c ∧ l.length ≤ c ∧ IV w (.slice (cutA A 0 c 1) (n - 0) (c - 0)) (ints .i64 (l.take n)) := by
 obtain ⟨A, c, e, hc, hs⟩ := h
 rw [List.length_map] at e hc
 refine ⟨A, c, e, hc, ?_⟩
 have := IV.cut (c := 0) (l := 0) (k := n) (m := c) hs (Nat.zero_le _) (by simpa using hn) ZO
 rw [List.drop_zero, show (ints .i64 l).take n = ints .i64 (l.take n) from by simp [ints]] at this
 exact this
theorem sgF_nat {G : GW} {s : Nat} (hs : s < 41) : sgF G (s : Int) = sgN G s := by
 unfold sgF
 rw [if_pos ZO]
 rfl
theorem readA_at {l : List Int} {j : Nat} (h : j < (Z0Y l).length) : (Z0Y l)[j]? = some (wrow (entS (l.getD j 0)).1) := by
 have h : j < l.length := by simpa [Z0Y] using h
 simp [Z0Y, List.getD, h]
theorem widesL (va vb : Value) (l : List Int) (hll : l.length ≤ 100000) (w : World) (ha : IK w 2 va (Z0Y l)) (hb : IK w 2 vb (Z0Y l)) :
  Z0f P 19 [va, vb] w fun r w' => r = .bool true ∧ Grow w w' [] := by
 refine Z0o func19 rfl ntmps19 rfl ?_
 have H0 := St.start w
 have hrl0 : (Z0Y l).length = l.length := by simp [Z0Y]
 refine Z03 (Z00 (Zg (Z01 (Z02 ?_))))
 refine Zk [0, 1] ?_
 refine Z03 (Z03 (Z00 (Zm ?_)))
 refine Z1B rfl rfl underlying47 rfl (H0.ikarg ha) ?_
 refine Zm ?_
 refine Z1B rfl rfl underlying47 rfl (H0.ikarg hb) ?_
 refine Zo ?_
 refine Z0j (s := 10) (v' := .bool false) rfl (by simp) ?_
 refine Z01 (Z02 ?_)
 refine Zk [0, 1, 10] ?_
 refine Z0Q rfl rfl ?_
 refine Z0a (Z02 ?_)
 refine Zk [0, 1] ?_
 refine Z03 (Z03 (Z00 (Zg (Z01 (Z02 (Z0d ?_))))))
 refine Z0z (ι := Nat) (fun (i : Nat) => (Z0Y l).length - i) (fun (i : Nat) (w' : World) => St w w.heap.size Z0J ([]) w' ∧ i ≤ (Z0Y l).length) (fun (i : Nat) => [(5, .int .i64 (i : Int))]) [0, 1] (0) ?_ (.cons rfl (.cons rfl .nil)) ?_ ?_
 ·exact ⟨H0, ZO⟩
 ·exact (.cons rfl ZN .nil)
 rintro i w1 ⟨H1, hi⟩
 show RunC P _ _ _ (_ :: _) _
 refine Z03 (Z03 (Z00 (Zm ?_)))
 refine Zm ?_
 refine Z1B rfl rfl underlying47 rfl (H1.ikarg ha) ?_
 refine Zl ?_
 refine Z01 (Z02 ?_)
 refine Zk [0, 1, 5, 14] ?_
 (first | refine Z0c rfl ?_ ?_ | refine Z08 rfl ?_ ?_) <;> intro hc1
 ·refine Z0a (Z02 ?_)
  refine Zk [0, 1, 5] ?_
  refine Z03 (Z0d (Z03 ?_))
  have H2 := H1.drewn
  have hrl : (Z0Y l).length = l.length := by simp [Z0Y]
  have hi1 : i < (Z0Y l).length := by omega
  have hrw := readA_at hi1
  obtain ⟨A6, c6, hA6⟩ : ∃ A c, va = .slice (some A) (Z0Y l).length c := by
   obtain ⟨_, A, c, e, _, hs⟩ := H2.ikarg ha
   obtain ⟨ad, rfl⟩ := hs.some_ (by rw [(Z2v _).len]; omega)
   exact ⟨ad, c, e⟩
  obtain ⟨B6, d6, hB6⟩ : ∃ A c, vb = .slice (some A) (Z0Y l).length c := by
   obtain ⟨_, A, c, e, _, hs⟩ := H2.ikarg hb
   obtain ⟨ad, rfl⟩ := hs.some_ (by rw [(Z2v _).len]; omega)
   exact ⟨ad, c, e⟩
  refine Z1a (n := 9) [Zz,Zz,Zz,Zz,Zz,Zz,Zz,Zz,Zz] (fun wS => IK wS 2 va (Z0Y l) ∧ IK wS 2 vb (Z0Y l)) ZK rfl rfl ?_
  apply Zu (L' := [Zy,Zz,Zz,Zz,Zz,Zz,Zz,Zz,Zz]) 0 (⟨H2.ikarg ha, H2.ikarg hb⟩)
  ·intro wS sS
   refine Zm (Z01 ?_)
   exact Z04 rfl
  apply Zu (L' := [Zy,Zy,Zz,Zz,Zz,Zz,Zz,Zz,Zz]) 1 (⟨H2.ikarg ha, H2.ikarg hb⟩)
  ·intro wS sS
   refine Zm (Z01 ?_)
   exact Z04 rfl
  apply Zu (L' := [Zy,Zy,Zy,Zz,Zz,Zz,Zz,Zz,Zz]) 2 (⟨H2.ikarg ha, H2.ikarg hb⟩)
  ·intro wS sS
   refine Z1s (j := i) rfl rfl underlying47 tz85 (by decide) rfl rfl sS.1 hA6 rfl hi1 ?_
   refine Z01 ?_
   exact Z04 rfl
  apply Zu (L' := [Zy,Zy,Zy,Zy,Zz,Zz,Zz,Zz,Zz]) 3 (⟨H2.ikarg ha, H2.ikarg hb⟩)
  ·intro wS sS
   refine Z2w (j := i) rfl rfl underlying85 rfl tz85 rfl hA6 sS.1 hrw ?_
   refine Z01 ?_
   exact Z04 rfl
  apply Zu (L' := [Zy,Zy,Zy,Zy,Zy,Zz,Zz,Zz,Zz]) 4 (⟨H2.ikarg ha, H2.ikarg hb⟩)
  ·intro wS sS
   refine Zm (Z01 ?_)
   exact Z04 rfl
  apply Zu (L' := [Zy,Zy,Zy,Zy,Zy,Zy,Zz,Zz,Zz]) 5 (⟨H2.ikarg ha, H2.ikarg hb⟩)
  ·intro wS sS
   refine Zm (Z01 ?_)
   exact Z04 rfl
  apply Zu (L' := [Zy,Zy,Zy,Zy,Zy,Zy,Zy,Zz,Zz]) 6 (⟨H2.ikarg ha, H2.ikarg hb⟩)
  ·intro wS sS
   refine Z1s (j := i) rfl rfl underlying47 tz85 (by decide) rfl rfl sS.2 hB6 rfl hi1 ?_
   refine Z01 ?_
   exact Z04 rfl
  apply Zu (L' := [Zy,Zy,Zy,Zy,Zy,Zy,Zy,Zy,Zz]) 7 (⟨H2.ikarg ha, H2.ikarg hb⟩)
  ·intro wS sS
   refine Z2w (j := i) rfl rfl underlying85 rfl tz85 rfl hB6 sS.2 hrw ?_
   refine Z01 ?_
   exact Z04 rfl
  apply Zu (L' := [Zy,Zy,Zy,Zy,Zy,Zy,Zy,Zy,Zy]) 8 (⟨H2.ikarg ha, H2.ikarg hb⟩)
  ·intro wS sS
   refine l_neqA rfl rfl fl85 rfl rfl (.int rfl rfl (.int rfl rfl .nil)) ?_
   refine Z0j (s := 25) (v' := .bool false) rfl (by simp) ?_
   refine Z01 ?_
   exact Z04 rfl
  refine Z0B ZK ?_
  refine Z02 ?_
  refine Zk [0, 1, 5, 25] ?_
  refine Z0Q rfl rfl ?_
  refine Z0a ?_
  refine Z0F ?_
  refine Z02 ?_
  refine Zk [0, 1, 5] ?_
  refine Z00 (Zm ?_)
  refine Z0y rfl rfl rfl rfl (Z0l ZO) ?_
  refine Zg (Z01 ?_)
  refine Z0p (i := (i)) (i + 1) ?_ ?_ (.cons rfl (.cons rfl .nil)) ?_
  ·first | omega | (simp; omega)
  ·exact ⟨H2, ZO⟩
  exact (.cons rfl ZN .nil)
 refine Z0H ?_
 refine Z06 ?_
 refine Z06 ?_
 refine Z0h ?_
 refine Z02 ?_
 refine Zk [] ?_
 refine Z03 (Z00 (Zg (Z01 (Z02 ?_))))
 refine Z0i ?_
 refine Z0e results19 rfl ?_
 refine ⟨_, rfl, ?_⟩
 exact ⟨rfl, H1.grows⟩
end Go.Proofs.YtgfkagaacdblbaaGreat.W
