/- the law GateGoes -/
import Derived.Test.YtgfkagaacdblbaaYy
set_option linter.unusedVariables false
set_option linter.unusedSimpArgs false
set_option maxRecDepth 10000
namespace Go.Proofs.Ytgfkagaacdblbaa.W
open Go.Vc Go.RowKit
theorem setAt_of : ∀ {cs : List Value} {o : Nat} (h : o < cs.length) (x : Value), SetAt cs o x (cs.set o x)
 | c :: cs, 0, _, x => .zero
 | c :: cs, o + 1, h, x => .succ (setAt_of (cs := cs) (o := o) (by simpa using h) x)
def refC (F : List Bool) : List Value := F.map fun b => .int .i64 (if b = true then 1 else 0)
theorem refC_at {F : List Bool} {t : Nat} (h : t < F.length) : (refC F)[t]? = some (.int .i64 (if F.getD t false = true then 1 else 0)) := by
 simp [refC, List.getD, h]
theorem refC_len (F : List Bool) : (refC F).length = F.length := by simp [refC]
theorem refC_set (F : List Bool) (t : Nat) : refC (F.set t true) = (refC F).set t (.int .i64 1) := by simp [refC, List.map_set]
def AskU (ls : List (List Int)) (i t : Nat) : Prop := ∃ (j : Nat) (l : List Int), j < i ∧ ls[j]? = some l ∧ ∃ q ∈ l, (whereS q).1.toNat = t
def AskO (ls : List (List Int)) (i : Nat) (F : List Bool) : Prop := F.length = 41 ∧ ∀ t, t < 41 → (F.getD t false = true ↔ AskU ls i t)
def AskF (ls : List (List Int)) (i k : Nat) (l : List Int) (F : List Bool) : Prop := F.length = 41 ∧ ∀ t, t < 41 → (F.getD t false = true ↔ AskU ls i t ∨ ∃ j, j < k ∧ (whereS (l.getD j 0)).1.toNat = t)
theorem AskO.zero (ls : List (List Int)) : AskO ls 0 (List.replicate 41 false) := by
 refine ⟨by simp, fun t ht => ?_⟩
 have e : (List.replicate 41 false).getD t false = false := by
  rw [List.getD_eq_getElem?_getD, List.getElem?_replicate, if_pos ht]
  rfl
 rw [e]
 constructor
 ·intro h; cases h
 ·rintro ⟨j, _, h, _⟩; omega
theorem AskO.start {ls : List (List Int)} {i : Nat} {F : List Bool} (h : AskO ls i F) (l : List Int) : AskF ls i 0 l F := by
 refine ⟨h.1, fun t ht => ?_⟩
 rw [h.2 t ht]
 constructor
 ·exact .inl
 ·rintro (h | ⟨j, h, _⟩)
  ·exact h
  ·omega
theorem AskF.set {ls : List (List Int)} {i k : Nat} {l : List Int} {F : List Bool} (h : AskF ls i k l F) : AskF ls i (k + 1) l (F.set (whereS (l.getD k 0)).1.toNat true) := by
 refine ⟨by simpa using h.1, fun t ht => ?_⟩
 have hd : (F.set (whereS (l.getD k 0)).1.toNat true).getD t false = if t = (whereS (l.getD k 0)).1.toNat then true else F.getD t false := by
  by_cases e : t = (whereS (l.getD k 0)).1.toNat
  ·rw [if_pos e, ← e, List.getD_eq_getElem?_getD, List.getElem?_set_self (by have := h.1; omega)]
   rfl
  ·rw [if_neg e, List.getD_eq_getElem?_getD, List.getElem?_set_ne (fun h => e h.symm), ← List.getD_eq_getElem?_getD]
 rw [hd]
 split
 ·rename_i e
  exact ⟨fun _ => .inr ⟨k, by omega, e.symm⟩, fun _ => rfl⟩
 ·rename_i e
  rw [h.2 t ht]
  constructor
  ·rintro (h | ⟨j, h1, h2⟩)
   ·exact .inl h
   ·exact .inr ⟨j, by omega, h2⟩
  ·rintro (h | ⟨j, h1, h2⟩)
   ·exact .inl h
   ·refine .inr ⟨j, ?_, h2⟩
    rcases Nat.lt_or_ge j k with h3 | h3
    ·exact h3
    ·obtain rfl : j = k := by omega
     exact absurd h2.symm e
theorem AskF.done {ls : List (List Int)} {i : Nat} {l : List Int} {F : List Bool} (hl : ls[i]? = some l) (h : AskF ls i l.length l F) : AskO ls (i + 1) F := by
 refine ⟨h.1, fun t ht => ?_⟩
 rw [h.2 t ht]
 constructor
 ·rintro (⟨j, l2, h1, h2, h3⟩ | ⟨j, h1, h2⟩)
  ·exact ⟨j, l2, by omega, h2, h3⟩
  ·exact ⟨i, l, by omega, hl, l.getD j 0, by simp [List.getD, h1], h2⟩
 ·rintro ⟨j, l2, h1, h2, q, hq, h3⟩
  rcases Nat.lt_or_ge j i with h4 | h4
  ·exact .inl ⟨j, l2, h4, h2, q, hq, h3⟩
  ·obtain rfl : j = i := by omega
   rw [hl] at h2
   cases h2
   obtain ⟨k, hk, rfl⟩ := List.mem_iff_getElem.1 hq
   exact .inr ⟨k, hk, by simpa [List.getD, hk] using h3⟩
theorem AskO.asked {ls : List (List Int)} {i : Nat} {F : List Bool} (h : AskO ls i F) (hi : ls.length ≤ i) {t : Nat} (ht : t < 41) : F.getD t false = true ↔ askedS ls t := by
 rw [h.2 t ht]
 constructor
 ·rintro ⟨j, l, _, h2, q, hq, h3⟩
  exact ⟨l, List.mem_of_getElem? h2, q, hq, h3⟩
 ·rintro ⟨l, hl, q, hq, h3⟩
  obtain ⟨j, hj, rfl⟩ := List.mem_iff_getElem.1 hl
  exact ⟨j, _, by omega, List.getElem?_eq_getElem hj, q, hq, h3⟩
theorem goes_b {ls : List (List Int)} {G : GW} (hg : Iv ls G) (hm : movesG G = []) {F : List Bool} {i : Nat} (h : AskO ls i F) (hi : ls.length ≤ i) {s : Nat} (hs : s < 41) : (sgF G (s : Int)).built = (if F.getD s false = true then 1 else 0) ∧ (sgF G (s : Int)).done = F.getD s false := by
 rw [sgF_nat hs]
 rcases hg.built hm hs with ⟨h1, h2, h3⟩ | ⟨h1, h2, h3⟩
 ·rw [(h.asked hi hs).2 h1, h2, h3]
  exact ⟨rfl, rfl⟩
 ·have e : F.getD s false = false := by
   rcases Bool.eq_false_or_eq_true (F.getD s false) with h4 | h4
   ·exact absurd ((h.asked hi hs).1 h4) h1
   ·exact h4
  rw [e, h2, h3]
  exact ⟨rfl, rfl⟩
theorem lenS_take {ls : List (List Int)} {i : Nat} {l : List Int} (h : ls[i]? = some l) : lenS (ls.take (i + 1)) = lenS (ls.take i) + l.length := by
 induction ls generalizing i with
 | nil => simp at h
 | cons a ls ih =>
  cases i with
  | zero =>
   have : a = l := by simpa using h
   subst this
   simp [lenS]
  | succ i =>
   have := ih (i := i) (by simpa using h)
   simp only [List.take_succ_cons, lenS]
   omega
theorem lenS_le {ls : List (List Int)} (h : okA ls) : ∀ i, lenS (ls.take i) ≤ 1024 := by
 have h1 : ∀ ls : List (List Int), (∀ l ∈ ls, okR l) → lenS ls ≤ 64 * ls.length := by
  intro ls
  induction ls with
  | nil => intro _; simp [lenS]
  | cons a ls ih =>
   intro hk
   have h2 := ih fun l hl => hk l (.tail _ hl)
   have h3 := (hk a (.head _)).1
   simp only [lenS, List.length_cons]
   omega
 intro i
 have h2 := h1 (ls.take i) fun l hl => h.2 l (List.mem_of_mem_take hl)
 have h3 := h.1
 rw [List.length_take] at h2
 omega
theorem gateGoesL (v : Value) (vs : List Value) (ls : List (List Int)) (hvl : vs.length = ls.length) (hrg : ∀ l ∈ ls, Rg (-9223372036854775808) 9223372036854775807 l) (v1 : Value) (l1 : List Int) (hrl1 : Rg (-9223372036854775808) 9223372036854775807 l1) (w : World) (hv : IV w v vs) (hvs : ∀ (j : Nat) (x : Value) (l : List Int), vs[j]? = some x → ls[j]? = some l → IV w x (ints .i64 l)) (hv1 : IV w v1 (ints .i64 l1)) :
  CallsV P 7 [v, v1] w fun r w' => r = .bool true ∧ Grow w w' [] := by
 refine enterW Try.func7 rfl Try.ntmps7 rfl ?_
 have hw0 := St.start w
 refine c_seq (c_region (l_assign rfl rfl rfl (l_nil (e_then ?_))))
 refine c_keep [0, 1] (.cons rfl (.cons rfl .nil)) ?_
 refine c_seq (c_region (l_move rfl rfl rfl ?_))
 refine l_call rfl rfl Try.func8 rfl rfl (.cons rfl .nil) (AsksL v vs ls hvl hrg w (hw0.iarg hv) (fun j x l h1 h2 => hw0.iarg (hvs j x l h1 h2))) ?_
 rintro vo w1 ⟨_, xs, rfl, hxs, hG⟩
 have hw1 := hG _ _ _ _ hw0
 try clear hG hw0
 simp only [List.cons_append, List.nil_append] at hw1
 refine l_assign rfl rfl rfl (l_nil (e_then ?_))
 refine c_keep [0, 1] (.cons rfl (.cons rfl .nil)) ?_
 refine c_seq (c_region (l_move rfl rfl rfl ?_))
 refine l_call rfl rfl Try.func9 rfl rfl (.cons rfl .nil) (newOk vo (xs.map Prod.fst) (asksF ls) (xs_len hxs) (by rw [xs_len hxs]; have := (asksF_ok ls).1; omega) (okA_rg (asksF_ok ls)) (asksF_ok ls) w1 (hw1.io mem0) (xs_iv (hw1.ok mem1) hxs)) ?_
 rintro _ w2 ⟨gb, gX, rfl, hgX, hG⟩
 have hw2 := hG _ _ _ _ hw1
 simp only [gW, List.cons_append, List.nil_append] at hw2
 try clear hX hw1
 refine l_move rfl rfl rfl (l_extract rfl rfl rfl rfl (l_extract rfl rfl rfl rfl (l_assign rfl rfl rfl (l_assign rfl rfl rfl (l_nil ?_)))))
 refine e_then ?_
 refine c_keep [0, 1, 5, 6] (.cons rfl (.cons rfl (.cons rfl (.cons rfl .nil)))) ?_
 refine c_seq (c_seq (c_region ?_))
 have hx16 : (xs.map Prod.fst).length ≤ 16 := by rw [xs_len hxs]; exact (asksF_ok ls).1
 have hIg : Iv (asksF ls) gX.abs := by rw [hgX]; exact newG_iv (asksF_ok ls)
 refine l_move rfl rfl rfl ?_
 refine l_callp rfl rfl Try.func10 rfl rfl (.cons rfl .nil) (numL28 _ _) ?_
 refine l_neq rfl rfl rfl rfl ?_
 refine l_turn (s := 25) (v' := .bool false) rfl (by rfl) ?_
 refine l_move rfl rfl rfl (l_move rfl rfl rfl ?_)
 refine l_eqlp (by kernel_rfl) rfl rfl rfl rfl ?_
 refine l_turn (s := 28) (v' := .bool false) rfl (by rfl) ?_
 refine l_pick_f rfl rfl rfl rfl ?_
 refine l_move rfl rfl rfl ?_
 refine l_call rfl rfl Try.func11 rfl rfl .nil (wakes28 w2) ?_
 rintro _ w3 ⟨rfl, hG⟩
 have hw3 := hG _ _ _ _ hw2
 try clear hG hw2
 simp only [List.cons_append, List.nil_append] at hw3
 first | refine l_notd rfl rfl rfl ?_ | refine l_not rfl rfl rfl ?_
 refine l_turn (s := 32) (v' := .bool false) rfl (by rfl) ?_
 refine l_pick_f rfl rfl rfl rfl ?_
 refine l_nil (e_then ?_)
 refine c_keep [0, 1, 5, 33] (.cons rfl (.cons rfl (.cons rfl (.cons rfl .nil)))) ?_
 refine c_cond_f rfl rfl ?_
 refine c_skip (e_then ?_)
 refine c_keep [0, 1, 5] (.cons rfl (.cons rfl (.cons rfl .nil))) ?_
 refine c_cutk (ι := Value) (fun (q1 : Value) (w' : World) => St w w.heap.size None' (gW gb gX ++ [As.ro 23 vo (xs.map Prod.fst), As.sep (xs.map (fun p : Value × List Int => As.ri 3 .i64 p.1 p.2))]) w' ∧ IV w q1 (ints .i64 (l1.take 400))) (fun (q1 : Value) => [(1, q1)]) [0, 5] (.cons rfl (.cons rfl .nil)) ?_ ?_
 ·skip
  refine c_seq (c_region (l_move rfl rfl rfl ?_))
  refine v_leni rfl rfl Try.underlying23 rfl (by first | exact hw3.ibl mem0 | exact hw3.ik (by assumption) mem1 | exact hw3.io mem2 | exact hw3.io mem4 | exact hw3.iarg hv | exact hw3.iarg hv1 | exact hw3.iarg hq1 | assumption) ?_
  refine l_gtr rfl rfl rfl rfl ?_
  refine l_nil (e_then ?_)
  refine c_keep [0, 1, 5, 36] (.cons rfl (.cons rfl (.cons rfl (.cons rfl .nil)))) ?_
  first | refine c_cond rfl (fun hc1 => ?_) (fun hc1 => ?_) | refine c_condb rfl (fun hc1 => ?_) (fun hc1 => ?_)
  ·skip
   refine c_region (l_move rfl rfl rfl ?_)
   obtain ⟨A1, c1, hv1, hc1, hq1⟩ := iv_cutE (n := 400) hv1 (by omega)
   refine l_slice (size := 1) (l := 0) (h := 400) (mm := c1) rfl rfl Try.underlying23 tz3 (by show some v1 = _; rw [hv1]) rfl rfl rfl rfl rfl rfl (by simp) (by omega) (by omega) (Nat.le_refl _) ?_
   refine l_assign rfl rfl rfl (l_nil ?_)
   have hw4 := St.frontL (l := [_, _, _, _, _]) hw3
   simp only [List.cons_append, List.nil_append] at hw4
   try clear hw3
   have hw5 := St.frontL (l := [_, _, _, _, _]) hw4
   simp only [List.cons_append, List.nil_append] at hw5
   try clear hw4
   have hw6 := St.frontL (l := [_, _, _, _, _]) hw5
   simp only [List.cons_append, List.nil_append] at hw6
   try clear hw5
   have hw7 := St.frontL (l := [_, _, _, _, _]) hw6
   simp only [List.cons_append, List.nil_append] at hw7
   try clear hw6
   have hw8 := St.frontL (l := [_, _, _, _, _]) hw7
   simp only [List.cons_append, List.nil_append] at hw8
   try clear hw7
   have hw9 := St.frontL (l := [_, _, _, _, _]) hw8
   simp only [List.cons_append, List.nil_append] at hw9
   try clear hw8
   refine e_meetk (.slice (cutA A1 0 c1 1) (400 - 0) (c1 - 0)) ?_ (.cons rfl (.cons rfl .nil)) ?_
   ·exact ⟨hw9, hq1⟩
   ·exact (.cons rfl (by first | rfl | (refine congrArg (Value.int _) ?_; omega)) .nil)
  ·skip
   refine c_skip ?_
   have hw10 := St.frontL (l := [_, _, _, _, _]) hw3
   simp only [List.cons_append, List.nil_append] at hw10
   try clear hw3
   have hw11 := St.frontL (l := [_, _, _, _, _]) hw10
   simp only [List.cons_append, List.nil_append] at hw11
   try clear hw10
   have hw12 := St.frontL (l := [_, _, _, _, _]) hw11
   simp only [List.cons_append, List.nil_append] at hw12
   try clear hw11
   have hw13 := St.frontL (l := [_, _, _, _, _]) hw12
   simp only [List.cons_append, List.nil_append] at hw13
   try clear hw12
   have hw14 := St.frontL (l := [_, _, _, _, _]) hw13
   simp only [List.cons_append, List.nil_append] at hw14
   try clear hw13
   have hw15 := St.frontL (l := [_, _, _, _, _]) hw14
   simp only [List.cons_append, List.nil_append] at hw15
   try clear hw14
   refine e_meetk (v1) ?_ (.cons rfl (.cons rfl .nil)) ?_
   ·exact ⟨hw15, by rw [List.take_of_length_le (by omega)]; exact hv1⟩
   ·exact (.cons rfl (by first | rfl | (refine congrArg (Value.int _) ?_; omega)) .nil)
 rintro q1 w16 ⟨hw16, hq1⟩
 show RunC P _ _ _ (_ :: _) _
 refine c_seq (c_region ?_)
 simp only [gW, List.cons_append, List.nil_append] at hw16
 refine l_move rfl rfl rfl (l_move rfl rfl rfl ?_)
 have hw17 := St.frontL (l := [_, _, _]) hw16
 simp only [List.cons_append, List.nil_append] at hw17
 try clear hw16
 have hw18 := St.frontL (l := [_, _, _]) hw17
 simp only [List.cons_append, List.nil_append] at hw18
 try clear hw17
 have hw19 := St.frontL (l := [_, _, _]) hw18
 simp only [List.cons_append, List.nil_append] at hw19
 try clear hw18
 have hw20 := St.frontL (l := [_, _, _]) hw19
 simp only [List.cons_append, List.nil_append] at hw20
 try clear hw19
 refine l_call rfl rfl Try.func12 rfl rfl (.cons rfl (.cons rfl .nil)) (PlayG gb gX hIg.wf q1 (l1.take 400) (fun x hx => hrl1 x (List.mem_of_mem_take hx)) (by simp; omega) w16 (St.rows (τ := gW gb gX) hw20) (argG (τ := gW gb gX) hw20 hq1)) ?_
 rintro _ w21 ⟨kg, gY, rfl, hPg, hQg, hX2⟩
 have hw21 := hX2 _ _ _ _ hw20
 simp only [gW, List.cons_append, List.nil_append] at hw21
 try clear hX hw20
 have hIg2 := hIg.play hPg
 have hkl : kg ≤ (l1.take 400).length := by rcases hQg with h | h <;> omega
 have hov : kg < (l1.take 400).length → overG gY.abs = true := fun h => hIg2.over.2 (hQg.resolve_left (by omega)).2
 refine l_assign rfl rfl rfl (l_nil (e_then ?_))
 refine c_keep [0, 1, 5, 7] (.cons rfl (.cons rfl (.cons rfl (.cons rfl .nil)))) ?_
 refine c_seq (c_seq (c_region (l_move rfl rfl rfl ?_)))
 refine l_lss rfl rfl rfl rfl ?_
 refine l_turn (s := 43) (v' := .bool false) rfl (by exact congrArg Value.bool (decide_eq_false (by omega))) ?_
 refine l_move rfl rfl rfl (l_move rfl rfl rfl (l_move rfl rfl rfl ?_))
 refine v_leni rfl rfl Try.underlying23 rfl (by first | exact hw21.ibl mem0 | exact hw21.ik (by assumption) mem1 | exact hw21.io mem2 | exact hw21.io mem4 | exact hw21.iarg hv | exact hw21.iarg hv1 | exact hw21.iarg hq1 | assumption) ?_
 refine l_gtr rfl rfl rfl rfl ?_
 refine l_turn (s := 48) (v' := .bool false) rfl (by exact congrArg Value.bool (decide_eq_false (by omega))) ?_
 refine l_pick_f rfl rfl rfl rfl ?_
 refine l_move rfl rfl rfl (l_move rfl rfl rfl (l_move rfl rfl rfl ?_))
 refine v_leni rfl rfl Try.underlying23 rfl (by first | exact hw21.ibl mem0 | exact hw21.ik (by assumption) mem1 | exact hw21.io mem2 | exact hw21.io mem4 | exact hw21.iarg hv | exact hw21.iarg hv1 | exact hw21.iarg hq1 | assumption) ?_
 refine l_lss rfl rfl rfl rfl ?_
 refine l_move rfl rfl rfl ?_
 apply l_andS hw21 (q := overG gY.abs = false) 3 [0, 5, 7, 50] rfl rfl (.cons rfl (.cons rfl (.cons rfl (.cons rfl (.cons rfl .nil))))) rfl rfl (fun _ => rfl) rfl rfl rfl
 ·intro hg8_14
  refine l_move rfl rfl rfl ?_
  have hw22 := St.frontL (l := [_, _, _]) hw21
  simp only [List.cons_append, List.nil_append] at hw22
  try clear hw21
  have hw23 := St.frontL (l := [_, _, _]) hw22
  simp only [List.cons_append, List.nil_append] at hw23
  try clear hw22
  have hw24 := St.frontL (l := [_, _, _]) hw23
  simp only [List.cons_append, List.nil_append] at hw24
  try clear hw23
  have hw25 := St.frontL (l := [_, _, _]) hw24
  simp only [List.cons_append, List.nil_append] at hw25
  try clear hw24
  refine l_call rfl rfl Try.func21 rfl rfl (.cons rfl .nil) (OverG gb gY hIg2.wf w21 (GF.of (σ := _) (b := gb) (X := gY) hw25)) ?_
  rintro _ w26 ⟨rfl, hG⟩
  have hw26 := hG _ _ _ _ hw25
  try clear hG hw25
  simp only [List.cons_append, List.nil_append] at hw26
  refine l_not rfl rfl rfl ?_
  refine l_turn (s := 58) (v' := .bool (decide (overG gY.abs = false))) rfl (by cases overG gY.abs <;> rfl) ?_
  refine l_nil ?_
  exact e_staysS hw26 rfl (.cons rfl (congrArg Value.bool (decide_eq_true hg8_14).symm) (.cons rfl rfl (.cons rfl rfl (.cons rfl rfl (.cons rfl rfl .nil)))))
  all_goals infer_instance
 intro w27 hw27
 try clear hw21
 refine l_turn (s := 59) (v' := .bool false) rfl (by exact congrArg Value.bool (decide_eq_false (fun h => by rw [hov (by omega)] at h; exact absurd h.2 (by decide)))) ?_
 refine l_pick_f rfl rfl rfl rfl ?_
 refine l_move rfl rfl rfl (l_move rfl rfl rfl ?_)
 have hw28 := St.frontL (l := [_, _, _]) hw27
 simp only [List.cons_append, List.nil_append] at hw28
 try clear hw27
 have hw29 := St.frontL (l := [_, _, _]) hw28
 simp only [List.cons_append, List.nil_append] at hw29
 try clear hw28
 have hw30 := St.frontL (l := [_, _, _]) hw29
 simp only [List.cons_append, List.nil_append] at hw30
 try clear hw29
 have hw31 := St.frontL (l := [_, _, _]) hw30
 simp only [List.cons_append, List.nil_append] at hw31
 try clear hw30
 refine l_call rfl rfl Try.func21 rfl rfl (.cons rfl .nil) (OverG gb gY hIg2.wf w27 (GF.of (σ := _) (b := gb) (X := gY) hw31)) ?_
 rintro _ w32 ⟨rfl, hG⟩
 have hw32 := hG _ _ _ _ hw31
 try clear hG hw31
 simp only [List.cons_append, List.nil_append] at hw32
 refine l_not rfl rfl rfl ?_
 refine l_turn (s := 64) (v' := .bool (decide (overG gY.abs = false))) rfl (by cases overG gY.abs <;> rfl) ?_
 refine l_move rfl rfl rfl ?_
 apply l_andS hw32 (q := ((movesG gY.abs).length : Int) = 0) 4 [0, 5, 7, 61] rfl rfl (.cons rfl (.cons rfl (.cons rfl (.cons rfl (.cons rfl .nil))))) rfl rfl (fun _ => rfl) rfl rfl rfl
 ·intro hg8_24
  refine l_move rfl rfl rfl ?_
  have hw33 := St.frontL (l := [_, _, _]) hw32
  simp only [List.cons_append, List.nil_append] at hw33
  try clear hw32
  have hw34 := St.frontL (l := [_, _, _]) hw33
  simp only [List.cons_append, List.nil_append] at hw34
  try clear hw33
  have hw35 := St.frontL (l := [_, _, _]) hw34
  simp only [List.cons_append, List.nil_append] at hw35
  try clear hw34
  have hw36 := St.frontL (l := [_, _, _]) hw35
  simp only [List.cons_append, List.nil_append] at hw36
  try clear hw35
  refine l_call rfl rfl Try.func17 rfl rfl (.cons rfl .nil) (MovesG gb gY hIg2.wf w32 (St.rows (τ := gW gb gY) hw36)) ?_
  rintro mv w37 ⟨_, rfl, hX2⟩
  have hw37 := hX2 _ _ _ _ hw36
  simp only [gW, List.cons_append, List.nil_append] at hw37
  try clear hX hw36
  refine k_len rfl rfl Try.underlying38 rfl (Own.ik (movesR_rows _) (hw37.ok mem4)) ?_
  refine l_turn (s := 68) (v' := .int .i64 ((movesG gY.abs).length : Int)) rfl (by rw [movesR_len]) ?_
  have hw38 := St.frontL (l := [_, _, _, _]) hw37
  simp only [List.cons_append, List.nil_append] at hw38
  try clear hw37
  refine l_eql rfl rfl rfl rfl ?_
  have hw39 := St.del .head hw38
  try clear hw38
  refine l_nil ?_
  exact e_staysS hw39 rfl (.cons rfl (congrArg Value.bool (decide_eq_true hg8_24).symm) (.cons rfl rfl (.cons rfl rfl (.cons rfl rfl (.cons rfl rfl .nil)))))
  all_goals infer_instance
 intro w40 hw40
 try clear hw32
 refine l_turn (s := 70) (v' := .bool false) rfl (by exact congrArg Value.bool (decide_eq_false (fun h => by rw [hIg2.over.2 (List.eq_nil_of_length_eq_zero (by omega))] at h; exact absurd h.1 (by decide)))) ?_
 refine l_pick_f rfl rfl rfl rfl ?_
 refine l_nil (e_then ?_)
 refine c_keep [0, 5, 7, 71] (.cons rfl (.cons rfl (.cons rfl (.cons rfl .nil)))) ?_
 refine c_cond_f rfl rfl ?_
 refine c_skip (e_then ?_)
 refine c_keep [0, 5, 7] (.cons rfl (.cons rfl (.cons rfl .nil))) ?_
 refine c_seq (c_region (l_move rfl rfl rfl (l_move rfl rfl rfl ?_)))
 have hw41 := St.frontL (l := [_, _, _]) hw40
 simp only [List.cons_append, List.nil_append] at hw41
 try clear hw40
 have hw42 := St.frontL (l := [_, _, _]) hw41
 simp only [List.cons_append, List.nil_append] at hw42
 try clear hw41
 have hw43 := St.frontL (l := [_, _, _]) hw42
 simp only [List.cons_append, List.nil_append] at hw43
 try clear hw42
 have hw44 := St.frontL (l := [_, _, _]) hw43
 simp only [List.cons_append, List.nil_append] at hw44
 try clear hw43
 refine l_call rfl rfl Try.func13 rfl rfl (.cons rfl .nil) (RestG gb gY hIg2.wf w40 (St.rows (τ := gW gb gY) hw44)) ?_
 rintro _ w45 ⟨jg, gZ, rfl, hNg, hEg, hX2⟩
 have hw45 := hX2 _ _ _ _ hw44
 simp only [gW, List.cons_append, List.nil_append] at hw45
 try clear hX hw44
 have hIg3 := hIg2.next hNg
 have hmg := next_nil hIg3.fr hEg
 have hla : lenS (asksF ls) ≤ 1024 := by have := lenS_le (asksF_ok ls) (asksF ls).length; rwa [List.take_length] at this
 have hph : kg + jg ≤ lenS (asksF ls) + 738 := by
  have h1 := hPg.phi hIg.wf
  have h2 := hNg.phi hIg2.wf
  rw [hgX, phi_new] at h1
  omega
 refine l_add rfl rfl rfl rfl (w_i64 (by omega)) ?_
 refine l_assign rfl rfl rfl (l_nil (e_then ?_))
 refine c_keep [0, 5, 7] (.cons rfl (.cons rfl (.cons rfl .nil))) ?_
 refine c_seq (c_region (l_assign rfl rfl rfl (l_nil (e_then (c_seq ?_)))))
 refine c_region ?_
 refine l_alloc hw45 ta54 rfl rfl (fun b12_0 w46 hw46 => ?_)
 try clear hw45
 refine l_nil (e_then (c_seq (c_seq (c_region ?_))))
 have hw47 := St.frontL (l := [_, _, _, _, _, _]) hw46
 simp only [List.cons_append, List.nil_append] at hw47
 try clear hw46
 have hw48 := St.frontL (l := [_, _, _, _, _, _]) hw47
 simp only [List.cons_append, List.nil_append] at hw48
 try clear hw47
 have hw49 := St.frontL (l := [_, _, _, _, _, _]) hw48
 simp only [List.cons_append, List.nil_append] at hw49
 try clear hw48
 have hw50 := St.frontL (l := [_, _, _, _, _, _]) hw49
 simp only [List.cons_append, List.nil_append] at hw50
 try clear hw49
 have hw51 := St.frontL (l := [_, _, _, _, _, _]) hw50
 simp only [List.cons_append, List.nil_append] at hw51
 try clear hw50
 have hw52 := St.frontL (l := [_, _, _, _, _, _]) hw51
 simp only [List.cons_append, List.nil_append] at hw52
 try clear hw51
 refine l_assign rfl rfl rfl (l_nil (e_then (c_block ?_)))
 refine c_loopk (ι := Nat × List Bool) (fun (z0 : Nat × List Bool) => match z0 with | ⟨i, F⟩ => (xs.map Prod.fst).length - i) (fun (z0 : Nat × List Bool) (w' : World) => match z0 with | ⟨i, F⟩ => St w w.heap.size None' (gW gb gZ ++ [As.ro 23 vo (xs.map Prod.fst), As.sep (xs.map (fun p : Value × List Int => As.ri 3 .i64 p.1 p.2)), As.blk b12_0 54 (refC F)]) w' ∧ i ≤ (xs.map Prod.fst).length ∧ AskO (asksF ls) i F) (fun (z0 : Nat × List Bool) => match z0 with | ⟨i, F⟩ => [(8, .int .i64 (lenS ((asksF ls).take i) : Int)), (10, .int .i64 (i : Int))]) [0, 5, 7, 9] (0, List.replicate 41 false) ?_ (.cons rfl (.cons rfl (.cons rfl (.cons rfl .nil)))) ?_ ?_
 ·exact ⟨hw52, by omega, AskO.zero _⟩
 ·exact (.cons rfl (by first | rfl | (refine congrArg (Value.int _) ?_; omega)) (.cons rfl (by first | rfl | (refine congrArg (Value.int _) ?_; omega)) .nil))
 rintro ⟨i, F⟩ w53 ⟨hw53, hi, hAO⟩
 show RunC P _ _ _ (_ :: _) _
 simp only [gW, List.cons_append, List.nil_append] at hw53
 refine c_seq (c_seq (c_region (l_move rfl rfl rfl (l_move rfl rfl rfl ?_))))
 refine v_len rfl rfl Try.underlying22 rfl (by first | exact hw53.ibl mem0 | exact hw53.ik (by assumption) mem1 | exact hw53.io mem2 | exact hw53.io mem4 | exact hw53.ibl mem6 | exact hw53.iarg hv | exact hw53.iarg hv1 | exact hw53.iarg hq1 | assumption) ?_
 refine l_lss rfl rfl rfl rfl ?_
 refine l_nil (e_then ?_)
 refine c_keep [0, 5, 7, 8, 9, 10, 79] (.cons rfl (.cons rfl (.cons rfl (.cons rfl (.cons rfl (.cons rfl (.cons rfl .nil))))))) ?_
 first | refine c_cond rfl (fun hc3 => ?_) (fun hc3 => ?_) | refine c_condb rfl (fun hc3 => ?_) (fun hc3 => ?_)
 ·skip
  refine c_skip (e_then ?_)
  refine c_keep [0, 5, 7, 8, 9, 10] (.cons rfl (.cons rfl (.cons rfl (.cons rfl (.cons rfl (.cons rfl .nil)))))) ?_
  refine c_seq (c_block (c_seq (c_region ?_)))
  have hi1 : i < (asksF ls).length := by have := xs_len hxs; omega
  obtain ⟨x, hxi⟩ : ∃ x, (xs.map Prod.fst)[i]? = some x := ⟨_, List.getElem?_eq_getElem (by have := xs_len hxs; omega)⟩
  obtain ⟨l, hli⟩ : ∃ l, (asksF ls)[i]? = some l := ⟨_, List.getElem?_eq_getElem hi1⟩
  obtain ⟨Ax, cx, hxe, _, _⟩ := xs_iv (hw53.ok mem5) hxs i x l hxi hli
  rw [List.length_map] at hxe
  have hlok := (asksF_ok ls).2 l (List.mem_of_getElem? hli)
  have hl64 := hlok.1
  have hRg : Rg (-342) 308 l := hlok.2
  have hlt := lenS_le (asksF_ok ls) i
  have hrg9 := hIg3.read hmg hli
  refine l_move rfl rfl rfl (l_move rfl rfl rfl (l_move rfl rfl rfl ?_))
  refine v_get rfl rfl rfl rfl Try.underlying22 tz23 Try.underlying23 rfl rfl rfl (by first | exact hw53.ibl mem0 | exact hw53.ik (by assumption) mem1 | exact hw53.io mem2 | exact hw53.io mem4 | exact hw53.ibl mem6 | exact hw53.iarg hv | exact hw53.iarg hv1 | exact hw53.iarg hq1 | assumption) (by first | omega | (simp; done) | (simp; omega)) hxi ?_ rfl
  refine l_len rfl rfl Try.underlying23 (by show some x = _; rw [hxe]) ?_
  refine l_add rfl rfl rfl rfl (w_i64 (by omega)) ?_
  refine l_assign rfl rfl rfl (l_nil (e_then ?_))
  refine c_keep [0, 5, 7, 8, 9, 10] (.cons rfl (.cons rfl (.cons rfl (.cons rfl (.cons rfl (.cons rfl .nil)))))) ?_
  refine c_seq (c_seq (c_region (l_assign rfl rfl rfl (l_nil (e_then ?_)))))
  refine c_block ?_
  refine c_loopk (ι := Nat × List Bool) (fun (z0 : Nat × List Bool) => match z0 with | ⟨k, F2⟩ => l.length - k) (fun (z0 : Nat × List Bool) (w' : World) => match z0 with | ⟨k, F2⟩ => St w w.heap.size None' (gW gb gZ ++ [As.ro 23 vo (xs.map Prod.fst), As.sep (xs.map (fun p : Value × List Int => As.ri 3 .i64 p.1 p.2)), As.blk b12_0 54 (refC F2)]) w' ∧ k ≤ l.length ∧ AskF (asksF ls) i k l F2) (fun (z0 : Nat × List Bool) => match z0 with | ⟨k, F2⟩ => [(11, .int .i64 (k : Int))]) [0, 5, 7, 8, 9, 10] (0, F) ?_ (.cons rfl (.cons rfl (.cons rfl (.cons rfl (.cons rfl (.cons rfl .nil)))))) ?_ ?_
  ·exact ⟨hw53, by omega, hAO.start l⟩
  ·exact (.cons rfl (by first | rfl | (refine congrArg (Value.int _) ?_; omega)) .nil)
  rintro ⟨k, F2⟩ w54 ⟨hw54, hk, hAF⟩
  show RunC P _ _ _ (_ :: _) _
  simp only [gW, List.cons_append, List.nil_append] at hw54
  refine c_seq (c_seq (c_region (l_move rfl rfl rfl (l_move rfl rfl rfl (l_move rfl rfl rfl ?_)))))
  refine v_get rfl rfl rfl rfl Try.underlying22 tz23 Try.underlying23 rfl rfl rfl (by first | exact hw54.ibl mem0 | exact hw54.ik (by assumption) mem1 | exact hw54.io mem2 | exact hw54.io mem4 | exact hw54.ibl mem6 | exact hw54.iarg hv | exact hw54.iarg hv1 | exact hw54.iarg hq1 | assumption) (by first | omega | (simp; done) | (simp; omega)) hxi ?_ rfl
  refine l_len rfl rfl Try.underlying23 (by show some x = _; rw [hxe]) ?_
  refine l_lss rfl rfl rfl rfl ?_
  refine l_nil (e_then ?_)
  refine c_keep [0, 5, 7, 8, 9, 10, 11, 95] (.cons rfl (.cons rfl (.cons rfl (.cons rfl (.cons rfl (.cons rfl (.cons rfl (.cons rfl .nil)))))))) ?_
  first | refine c_cond rfl (fun hc4 => ?_) (fun hc4 => ?_) | refine c_condb rfl (fun hc4 => ?_) (fun hc4 => ?_)
  ·skip
   refine c_skip (e_then ?_)
   refine c_keep [0, 5, 7, 8, 9, 10, 11] (.cons rfl (.cons rfl (.cons rfl (.cons rfl (.cons rfl (.cons rfl (.cons rfl .nil))))))) ?_
   refine c_seq (c_block (c_seq (c_region ?_)))
   have hq0 := hRg.get (j := k) (by omega)
   have hwb := where_bd (l.getD k 0)
   refine l_move rfl rfl rfl (l_move rfl rfl rfl ?_)
   refine v_get rfl rfl rfl rfl Try.underlying22 tz23 Try.underlying23 rfl rfl rfl (by first | exact hw54.ibl mem0 | exact hw54.ik (by assumption) mem1 | exact hw54.io mem2 | exact hw54.io mem4 | exact hw54.ibl mem6 | exact hw54.iarg hv | exact hw54.iarg hv1 | exact hw54.iarg hq1 | assumption) (by first | omega | (simp; done) | (simp; omega)) hxi ?_ rfl
   refine l_move rfl rfl rfl ?_
   refine v_getr (j := k) rfl rfl rfl rfl Try.underlying23 tz3 Try.underlying3 rfl rfl (xs_iv (hw54.ok mem5) hxs i x l hxi hli) hRg rfl rfl (by first | omega | (simp; done) | (simp; omega)) (fun hb9 => ?_)
   refine l_callp rfl rfl Try.func19 rfl rfl (.cons rfl .nil) (whereR (l.getD k 0) (by omega) _) ?_
   refine l_move rfl rfl rfl (l_extract rfl rfl rfl rfl (l_extract rfl rfl rfl rfl (l_extract rfl rfl rfl rfl (l_assign rfl rfl rfl (l_assign rfl rfl rfl ?_)))))
   refine l_assign rfl rfl rfl (l_nil (e_then ?_))
   refine c_keep [0, 5, 7, 8, 9, 10, 11, 12] (.cons rfl (.cons rfl (.cons rfl (.cons rfl (.cons rfl (.cons rfl (.cons rfl (.cons rfl .nil)))))))) ?_
   refine c_region ?_
   have hF2 := hAF.1
   refine l_move rfl rfl rfl ?_
   refine l_turn (s := 110) (v' := .int .i64 (((whereS (l.getD k 0)).1.toNat : Nat) : Int)) rfl (congrArg (Value.int .i64) (by omega)) ?_
   refine l_indexAo (j := (whereS (l.getD k 0)).1.toNat) (o := 0) (n := 1) rfl rfl Try.underlying54 tz3 rfl rfl rfl (by omega) ?_
   rw [Nat.mul_one, Nat.zero_add]
   refine l_store_blk hw54 (by repeat (first | exact .head | apply Upd.tail)) (setAt_of (by rw [refC_len]; omega) _) rfl tz3 rfl rfl rfl (fun w55 hw55 => ?_)
   refine l_nil ?_
   refine e_blk ?_
   refine e_then ?_
   refine c_keep [0, 5, 7, 8, 9, 10, 11] (.cons rfl (.cons rfl (.cons rfl (.cons rfl (.cons rfl (.cons rfl (.cons rfl .nil))))))) ?_
   refine c_region (l_move rfl rfl rfl ?_)
   refine l_add rfl rfl rfl rfl (w_i64 (by omega)) ?_
   refine l_assign rfl rfl rfl (l_nil ?_)
   refine e_againk (i := (k, F2)) (k + 1, F2.set (whereS (l.getD k 0)).1.toNat true) ?_ ?_ (.cons rfl (.cons rfl (.cons rfl (.cons rfl (.cons rfl (.cons rfl .nil)))))) ?_
   ·first | omega | (simp; omega)
   ·exact ⟨hw55.cast (by rw [refC_set]; rfl), by omega, hAF.set⟩
   ·exact (.cons rfl (by first | rfl | (refine congrArg (Value.int _) ?_; omega)) .nil)
  ·skip
   refine c_exit ?_
   refine e_then_exit ?_
   refine e_then_exit ?_
   refine e_blk_exit ?_
   refine e_then ?_
   refine c_keep [0, 5, 7, 8, 9, 10] (.cons rfl (.cons rfl (.cons rfl (.cons rfl (.cons rfl (.cons rfl .nil)))))) ?_
   refine c_seq ?_
   have hw56 := hw54.drewn
   try clear hw54
   obtain ⟨A22, c22, hv22⟩ := (hw56.io mem4).lies (by rw [xs_len hxs]; omega)
   refine c_any (n := 10) [false, false, false, false, false, false, false, false, false, false] (fun wS => IV wS vo (xs.map Prod.fst)) (by kernel_rfl) rfl rfl ?_
   apply a_take (L' := [true, false, false, false, false, false, false, false, false, false]) 0 rfl (by kernel_rfl) (by kernel_rfl) (by kernel_rfl) rfl rfl rfl rfl rfl (hw56.io mem4)
   ·intro wS sS
    refine l_move rfl rfl rfl (l_nil ?_)
    exact e_got rfl
   apply a_take (L' := [true, true, false, false, false, false, false, false, false, false]) 1 rfl (by kernel_rfl) (by kernel_rfl) (by kernel_rfl) rfl rfl rfl rfl rfl (hw56.io mem4)
   ·intro wS sS
    refine l_move rfl rfl rfl (l_nil ?_)
    exact e_got rfl
   apply a_take (L' := [true, true, false, false, true, false, false, false, false, false]) 4 rfl (by kernel_rfl) (by kernel_rfl) (by kernel_rfl) rfl rfl rfl rfl rfl (hw56.io mem4)
   ·intro wS sS
    refine l_move rfl rfl rfl (l_nil ?_)
    exact e_got rfl
   apply a_take (L' := [true, true, false, false, true, true, false, false, false, false]) 5 rfl (by kernel_rfl) (by kernel_rfl) (by kernel_rfl) rfl rfl rfl rfl rfl (hw56.io mem4)
   ·intro wS sS
    refine l_move rfl rfl rfl (l_nil ?_)
    exact e_got rfl
   apply a_take (L' := [true, true, false, false, true, true, true, false, false, false]) 6 rfl (by kernel_rfl) (by kernel_rfl) (by kernel_rfl) rfl rfl rfl rfl rfl (hw56.io mem4)
   ·intro wS sS
    refine v_addrx (j := i) rfl rfl Try.underlying22 tz23 rfl rfl hv22 (by first | rfl | omega) (by first | omega | (simp; done) | (simp; omega)) ?_
    refine l_nil ?_
    exact e_got rfl
   apply a_take (L' := [true, true, false, false, true, true, true, true, false, false]) 7 rfl (by kernel_rfl) (by kernel_rfl) (by kernel_rfl) rfl rfl rfl rfl rfl (hw56.io mem4)
   ·intro wS sS
    refine l_load rfl rfl Try.underlying23 rfl rfl (sl_of hv22 sS) hxi ?_
    refine l_nil ?_
    exact e_got rfl
   refine a_two (L' := [true, true, true, false, true, true, true, true, false, false]) (L'' := [true, true, false, false, true, true, true, true, true, false]) 2 8 (by kernel_rfl) rfl rfl rfl rfl ?_ ?_
   ·skip
    have hw57 := St.frontL (l := [_, _, _]) hw56
    simp only [List.cons_append, List.nil_append] at hw57
    try clear hw56
    have hw58 := St.frontL (l := [_, _, _]) hw57
    simp only [List.cons_append, List.nil_append] at hw58
    try clear hw57
    have hw59 := St.frontL (l := [_, _, _]) hw58
    simp only [List.cons_append, List.nil_append] at hw59
    try clear hw58
    have hw60 := St.frontL (l := [_, _, _]) hw59
    simp only [List.cons_append, List.nil_append] at hw60
    try clear hw59
    refine l_call rfl rfl Try.func15 rfl rfl (.cons rfl (.cons rfl .nil)) (ReadG gb gZ hIg3.wf (i : Int) w54.drew (GF.of (σ := _) (b := gb) (X := gZ) hw60)) ?_
    rintro ra w61 ⟨_, rfl, hG⟩
    have hw61 := hG _ _ _ _ hw60
    try clear hG hw60
    simp only [List.cons_append, List.nil_append] at hw61
    refine l_nil ?_
    refine e_any (hw61.io mem5) ?_
    refine a_two (L' := [true, true, true, true, true, true, true, true, false, false]) (L'' := [true, true, true, false, true, true, true, true, true, false]) 3 8 (by kernel_rfl) rfl rfl rfl rfl ?_ ?_
    ·skip
     refine k_len rfl rfl Try.underlying34 rfl (Own.ik (readF_rows _ _) (hw61.ok mem0)) ?_
     refine l_nil ?_
     refine e_any (hw61.io mem5) ?_
     refine a_one (L' := [true, true, true, true, true, true, true, true, true, false]) 8 (by kernel_rfl) rfl rfl ?_
     refine l_len rfl rfl Try.underlying23 (by show some x = _; rw [hxe]) ?_
     refine l_nil ?_
     refine e_any (hw61.io mem5) ?_
     apply a_take (L' := [true, true, true, true, true, true, true, true, true, true]) 9 rfl (by kernel_rfl) (by kernel_rfl) (by kernel_rfl) rfl rfl rfl rfl rfl (hw61.io mem5)
     ·intro wS sS
      refine l_neq rfl rfl rfl rfl ?_
      refine l_turn (s := 121) (v' := .bool false) rfl (by rw [hrg9, readA_len]; simp) ?_
      refine l_nil ?_
      exact e_got rfl
     refine a_done (by kernel_rfl) ?_
     refine e_then ?_
     refine c_keep [0, 5, 7, 8, 9, 10, 121] (.cons rfl (.cons rfl (.cons rfl (.cons rfl (.cons rfl (.cons rfl (.cons rfl .nil))))))) ?_
     refine c_cond_f rfl rfl ?_
     refine c_skip ?_
     refine e_blk ?_
     refine e_then ?_
     refine c_keep [0, 5, 7, 8, 9, 10] (.cons rfl (.cons rfl (.cons rfl (.cons rfl (.cons rfl (.cons rfl .nil)))))) ?_
     refine c_region ?_
     have hw62 := St.frontL (l := [_, _, _, _, _, _, _]) hw61
     simp only [List.cons_append, List.nil_append] at hw62
     try clear hw61
     have hw63 := St.frontL (l := [_, _, _, _, _, _, _]) hw62
     simp only [List.cons_append, List.nil_append] at hw63
     try clear hw62
     have hw64 := St.frontL (l := [_, _, _, _, _, _, _]) hw63
     simp only [List.cons_append, List.nil_append] at hw64
     try clear hw63
     have hw65 := St.frontL (l := [_, _, _, _, _, _, _]) hw64
     simp only [List.cons_append, List.nil_append] at hw65
     try clear hw64
     have hw66 := St.frontL (l := [_, _, _, _, _, _, _]) hw65
     simp only [List.cons_append, List.nil_append] at hw66
     try clear hw65
     have hw67 := St.frontL (l := [_, _, _, _, _, _, _]) hw66
     simp only [List.cons_append, List.nil_append] at hw67
     try clear hw66
     have hw68 := St.frontL (l := [_, _, _, _, _, _, _]) hw67
     simp only [List.cons_append, List.nil_append] at hw68
     try clear hw67
     refine l_move rfl rfl rfl ?_
     refine l_add rfl rfl rfl rfl (w_i64 (by omega)) ?_
     refine l_assign rfl rfl rfl (l_nil ?_)
     have hw69 := St.del (.tail (.tail (.tail (.tail (.tail (.tail (.tail .head))))))) hw68
     try clear hw68
     refine e_againk (i := (i, F)) (i + 1, F2) ?_ ?_ (.cons rfl (.cons rfl (.cons rfl (.cons rfl .nil)))) ?_
     ·show (xs.map Prod.fst).length - (i + 1) < (xs.map Prod.fst).length - i; omega
     ·exact ⟨hw69, by omega, AskF.done hli (by rw [show l.length = k by omega]; exact hAF)⟩
     ·exact (.cons rfl (by (refine congrArg (Value.int .i64) ?_; rw [lenS_take hli]; omega)) (.cons rfl (by first | rfl | (refine congrArg (Value.int _) ?_; omega)) .nil))
    ·skip
     refine l_len rfl rfl Try.underlying23 (by show some x = _; rw [hxe]) ?_
     refine l_nil ?_
     refine e_any (hw61.io mem5) ?_
     refine a_one (L' := [true, true, true, true, true, true, true, true, true, false]) 3 (by kernel_rfl) rfl rfl ?_
     refine k_len rfl rfl Try.underlying34 rfl (Own.ik (readF_rows _ _) (hw61.ok mem0)) ?_
     refine l_nil ?_
     refine e_any (hw61.io mem5) ?_
     apply a_take (L' := [true, true, true, true, true, true, true, true, true, true]) 9 rfl (by kernel_rfl) (by kernel_rfl) (by kernel_rfl) rfl rfl rfl rfl rfl (hw61.io mem5)
     ·intro wS sS
      refine l_neq rfl rfl rfl rfl ?_
      refine l_turn (s := 121) (v' := .bool false) rfl (by rw [hrg9, readA_len]; simp) ?_
      refine l_nil ?_
      exact e_got rfl
     refine a_done (by kernel_rfl) ?_
     refine e_then ?_
     refine c_keep [0, 5, 7, 8, 9, 10, 121] (.cons rfl (.cons rfl (.cons rfl (.cons rfl (.cons rfl (.cons rfl (.cons rfl .nil))))))) ?_
     refine c_cond_f rfl rfl ?_
     refine c_skip ?_
     refine e_blk ?_
     refine e_then ?_
     refine c_keep [0, 5, 7, 8, 9, 10] (.cons rfl (.cons rfl (.cons rfl (.cons rfl (.cons rfl (.cons rfl .nil)))))) ?_
     refine c_region ?_
     have hw70 := St.frontL (l := [_, _, _, _, _, _, _]) hw61
     simp only [List.cons_append, List.nil_append] at hw70
     try clear hw61
     have hw71 := St.frontL (l := [_, _, _, _, _, _, _]) hw70
     simp only [List.cons_append, List.nil_append] at hw71
     try clear hw70
     have hw72 := St.frontL (l := [_, _, _, _, _, _, _]) hw71
     simp only [List.cons_append, List.nil_append] at hw72
     try clear hw71
     have hw73 := St.frontL (l := [_, _, _, _, _, _, _]) hw72
     simp only [List.cons_append, List.nil_append] at hw73
     try clear hw72
     have hw74 := St.frontL (l := [_, _, _, _, _, _, _]) hw73
     simp only [List.cons_append, List.nil_append] at hw74
     try clear hw73
     have hw75 := St.frontL (l := [_, _, _, _, _, _, _]) hw74
     simp only [List.cons_append, List.nil_append] at hw75
     try clear hw74
     have hw76 := St.frontL (l := [_, _, _, _, _, _, _]) hw75
     simp only [List.cons_append, List.nil_append] at hw76
     try clear hw75
     refine l_move rfl rfl rfl ?_
     refine l_add rfl rfl rfl rfl (w_i64 (by omega)) ?_
     refine l_assign rfl rfl rfl (l_nil ?_)
     have hw77 := St.del (.tail (.tail (.tail (.tail (.tail (.tail (.tail .head))))))) hw76
     try clear hw76
     refine e_againk (i := (i, F)) (i + 1, F2) ?_ ?_ (.cons rfl (.cons rfl (.cons rfl (.cons rfl .nil)))) ?_
     ·show (xs.map Prod.fst).length - (i + 1) < (xs.map Prod.fst).length - i; omega
     ·exact ⟨hw77, by omega, AskF.done hli (by rw [show l.length = k by omega]; exact hAF)⟩
     ·exact (.cons rfl (by (refine congrArg (Value.int .i64) ?_; rw [lenS_take hli]; omega)) (.cons rfl (by first | rfl | (refine congrArg (Value.int _) ?_; omega)) .nil))
   ·skip
    refine l_len rfl rfl Try.underlying23 (by show some x = _; rw [hxe]) ?_
    refine l_nil ?_
    refine e_any (hw56.io mem4) ?_
    refine a_one (L' := [true, true, true, false, true, true, true, true, true, false]) 2 (by kernel_rfl) rfl rfl ?_
    have hw78 := St.frontL (l := [_, _, _]) hw56
    simp only [List.cons_append, List.nil_append] at hw78
    try clear hw56
    have hw79 := St.frontL (l := [_, _, _]) hw78
    simp only [List.cons_append, List.nil_append] at hw79
    try clear hw78
    have hw80 := St.frontL (l := [_, _, _]) hw79
    simp only [List.cons_append, List.nil_append] at hw80
    try clear hw79
    have hw81 := St.frontL (l := [_, _, _]) hw80
    simp only [List.cons_append, List.nil_append] at hw81
    try clear hw80
    refine l_call rfl rfl Try.func15 rfl rfl (.cons rfl (.cons rfl .nil)) (ReadG gb gZ hIg3.wf (i : Int) w54.drew (GF.of (σ := _) (b := gb) (X := gZ) hw81)) ?_
    rintro ra w82 ⟨_, rfl, hG⟩
    have hw82 := hG _ _ _ _ hw81
    try clear hG hw81
    simp only [List.cons_append, List.nil_append] at hw82
    refine l_nil ?_
    refine e_any (hw82.io mem5) ?_
    refine a_one (L' := [true, true, true, true, true, true, true, true, true, false]) 3 (by kernel_rfl) rfl rfl ?_
    refine k_len rfl rfl Try.underlying34 rfl (Own.ik (readF_rows _ _) (hw82.ok mem0)) ?_
    refine l_nil ?_
    refine e_any (hw82.io mem5) ?_
    apply a_take (L' := [true, true, true, true, true, true, true, true, true, true]) 9 rfl (by kernel_rfl) (by kernel_rfl) (by kernel_rfl) rfl rfl rfl rfl rfl (hw82.io mem5)
    ·intro wS sS
     refine l_neq rfl rfl rfl rfl ?_
     refine l_turn (s := 121) (v' := .bool false) rfl (by rw [hrg9, readA_len]; simp) ?_
     refine l_nil ?_
     exact e_got rfl
    refine a_done (by kernel_rfl) ?_
    refine e_then ?_
    refine c_keep [0, 5, 7, 8, 9, 10, 121] (.cons rfl (.cons rfl (.cons rfl (.cons rfl (.cons rfl (.cons rfl (.cons rfl .nil))))))) ?_
    refine c_cond_f rfl rfl ?_
    refine c_skip ?_
    refine e_blk ?_
    refine e_then ?_
    refine c_keep [0, 5, 7, 8, 9, 10] (.cons rfl (.cons rfl (.cons rfl (.cons rfl (.cons rfl (.cons rfl .nil)))))) ?_
    refine c_region ?_
    have hw83 := St.frontL (l := [_, _, _, _, _, _, _]) hw82
    simp only [List.cons_append, List.nil_append] at hw83
    try clear hw82
    have hw84 := St.frontL (l := [_, _, _, _, _, _, _]) hw83
    simp only [List.cons_append, List.nil_append] at hw84
    try clear hw83
    have hw85 := St.frontL (l := [_, _, _, _, _, _, _]) hw84
    simp only [List.cons_append, List.nil_append] at hw85
    try clear hw84
    have hw86 := St.frontL (l := [_, _, _, _, _, _, _]) hw85
    simp only [List.cons_append, List.nil_append] at hw86
    try clear hw85
    have hw87 := St.frontL (l := [_, _, _, _, _, _, _]) hw86
    simp only [List.cons_append, List.nil_append] at hw87
    try clear hw86
    have hw88 := St.frontL (l := [_, _, _, _, _, _, _]) hw87
    simp only [List.cons_append, List.nil_append] at hw88
    try clear hw87
    have hw89 := St.frontL (l := [_, _, _, _, _, _, _]) hw88
    simp only [List.cons_append, List.nil_append] at hw89
    try clear hw88
    refine l_move rfl rfl rfl ?_
    refine l_add rfl rfl rfl rfl (w_i64 (by omega)) ?_
    refine l_assign rfl rfl rfl (l_nil ?_)
    have hw90 := St.del (.tail (.tail (.tail (.tail (.tail (.tail (.tail .head))))))) hw89
    try clear hw89
    refine e_againk (i := (i, F)) (i + 1, F2) ?_ ?_ (.cons rfl (.cons rfl (.cons rfl (.cons rfl .nil)))) ?_
    ·show (xs.map Prod.fst).length - (i + 1) < (xs.map Prod.fst).length - i; omega
    ·exact ⟨hw90, by omega, AskF.done hli (by rw [show l.length = k by omega]; exact hAF)⟩
    ·exact (.cons rfl (by (refine congrArg (Value.int .i64) ?_; rw [lenS_take hli]; omega)) (.cons rfl (by first | rfl | (refine congrArg (Value.int _) ?_; omega)) .nil))
 ·skip
  refine c_exit ?_
  refine e_then_exit ?_
  refine e_then_exit ?_
  refine e_blk_exit ?_
  refine e_then ?_
  refine c_keep [0, 5, 7, 8, 9] (.cons rfl (.cons rfl (.cons rfl (.cons rfl (.cons rfl .nil))))) ?_
  refine c_seq (c_seq (c_region ?_))
  have hil : (asksF ls).length ≤ i := by have := xs_len hxs; omega
  have hF := hAO.1
  refine l_assign rfl rfl rfl (l_nil (e_then (c_block ?_)))
  refine c_loopk (ι := Nat) (fun (s : Nat) => 41 - s) (fun (s : Nat) (w' : World) => St w w.heap.size None' (gW gb gZ ++ [As.ro 23 vo (xs.map Prod.fst), As.sep (xs.map (fun p : Value × List Int => As.ri 3 .i64 p.1 p.2)), As.blk b12_0 54 (refC F)]) w' ∧ s ≤ 41) (fun (s : Nat) => [(15, .int .i64 (s : Int))]) [0, 5, 7, 8, 9] (0) ?_ (.cons rfl (.cons rfl (.cons rfl (.cons rfl (.cons rfl .nil))))) ?_ ?_
  ·exact ⟨hw53, by omega⟩
  ·exact (.cons rfl (by first | rfl | (refine congrArg (Value.int _) ?_; omega)) .nil)
  rintro s w91 ⟨hw91, hs⟩
  show RunC P _ _ _ (_ :: _) _
  simp only [gW, List.cons_append, List.nil_append] at hw91
  refine c_seq (c_seq (c_region (l_move rfl rfl rfl ?_)))
  refine l_lss rfl rfl rfl rfl ?_
  refine l_nil (e_then ?_)
  refine c_keep [0, 5, 7, 8, 9, 15, 123] (.cons rfl (.cons rfl (.cons rfl (.cons rfl (.cons rfl (.cons rfl (.cons rfl .nil))))))) ?_
  first | refine c_cond rfl (fun hc6 => ?_) (fun hc6 => ?_) | refine c_condb rfl (fun hc6 => ?_) (fun hc6 => ?_)
  ·skip
   refine c_skip (e_then ?_)
   refine c_keep [0, 5, 7, 8, 9, 15] (.cons rfl (.cons rfl (.cons rfl (.cons rfl (.cons rfl (.cons rfl .nil)))))) ?_
   refine c_seq (c_block (c_seq ?_))
   have hw92 := hw91.drewn
   try clear hw91
   have hbs := goes_b hIg3 hmg hAO hil (s := s) (by omega)
   refine c_any (n := 17) [false, false, false, false, false, false, false, false, false, false, false, false, false, false, false, false, false] (fun wS => (As.blk b12_0 54 (refC F)).ok wS) (by kernel_rfl) rfl rfl ?_
   apply a_take (L' := [true, false, false, false, false, false, false, false, false, false, false, false, false, false, false, false, false]) 0 rfl (by kernel_rfl) (by kernel_rfl) (by kernel_rfl) rfl rfl rfl rfl rfl (hw92.ok mem6)
   ·intro wS sS
    refine l_move rfl rfl rfl (l_nil ?_)
    exact e_got rfl
   apply a_take (L' := [true, true, false, false, false, false, false, false, false, false, false, false, false, false, false, false, false]) 1 rfl (by kernel_rfl) (by kernel_rfl) (by kernel_rfl) rfl rfl rfl rfl rfl (hw92.ok mem6)
   ·intro wS sS
    refine l_move rfl rfl rfl (l_nil ?_)
    exact e_got rfl
   apply a_take (L' := [true, true, false, true, false, false, false, false, false, false, false, false, false, false, false, false, false]) 3 rfl (by kernel_rfl) (by kernel_rfl) (by kernel_rfl) rfl rfl rfl rfl rfl (hw92.ok mem6)
   ·intro wS sS
    refine l_move rfl rfl rfl (l_nil ?_)
    exact e_got rfl
   apply a_take (L' := [true, true, false, true, true, false, false, false, false, false, false, false, false, false, false, false, false]) 4 rfl (by kernel_rfl) (by kernel_rfl) (by kernel_rfl) rfl rfl rfl rfl rfl (hw92.ok mem6)
   ·intro wS sS
    refine l_indexAo (j := s) (o := 0) (n := 1) rfl rfl Try.underlying54 tz3 rfl rfl rfl (by omega) ?_
    rw [Nat.mul_one, Nat.zero_add]
    refine l_nil ?_
    exact e_got rfl
   apply a_take (L' := [true, true, false, true, true, true, false, false, false, false, false, false, false, false, false, false, false]) 5 rfl (by kernel_rfl) (by kernel_rfl) (by kernel_rfl) rfl rfl rfl rfl rfl (hw92.ok mem6)
   ·intro wS sS
    refine l_load_blk (blk_st sS) mem0 rfl rfl Try.underlying3 rfl rfl (refC_at (by omega)) ?_
    refine l_nil ?_
    exact e_got rfl
   refine a_one (L' := [true, true, true, true, true, true, false, false, false, false, false, false, false, false, false, false, false]) 2 (by kernel_rfl) rfl rfl ?_
   have hw93 := St.frontL (l := [_, _, _]) hw92
   simp only [List.cons_append, List.nil_append] at hw93
   try clear hw92
   have hw94 := St.frontL (l := [_, _, _]) hw93
   simp only [List.cons_append, List.nil_append] at hw94
   try clear hw93
   have hw95 := St.frontL (l := [_, _, _]) hw94
   simp only [List.cons_append, List.nil_append] at hw95
   try clear hw94
   have hw96 := St.frontL (l := [_, _, _]) hw95
   simp only [List.cons_append, List.nil_append] at hw96
   try clear hw95
   refine l_callp rfl rfl Try.func16 rfl rfl (.cons rfl (.cons rfl .nil)) (BuiltG gb gZ hIg3.wf.sgX (s : Int) w91.drew (GF.of (σ := _) (b := gb) (X := gZ) hw96)) ?_
   refine l_nil ?_
   refine e_any (hw96.ok mem6) ?_
   apply a_take (L' := [true, true, true, true, true, true, true, false, false, false, false, false, false, false, false, false, false]) 6 rfl (by kernel_rfl) (by kernel_rfl) (by kernel_rfl) rfl rfl rfl rfl rfl (hw96.ok mem6)
   ·intro wS sS
    refine l_neq rfl rfl rfl rfl ?_
    refine l_turn (s := 132) (v' := .bool false) rfl (by rw [hbs.1]; simp) ?_
    refine l_nil ?_
    exact e_got rfl
   apply a_take (L' := [true, true, true, true, true, true, true, true, false, false, false, false, false, false, false, false, false]) 7 rfl (by kernel_rfl) (by kernel_rfl) (by kernel_rfl) rfl rfl rfl rfl rfl (hw96.ok mem6)
   ·intro wS sS
    refine l_move rfl rfl rfl (l_nil ?_)
    exact e_got rfl
   apply a_take (L' := [true, true, true, true, true, true, true, true, true, false, false, false, false, false, false, false, false]) 8 rfl (by kernel_rfl) (by kernel_rfl) (by kernel_rfl) rfl rfl rfl rfl rfl (hw96.ok mem6)
   ·intro wS sS
    refine l_move rfl rfl rfl (l_nil ?_)
    exact e_got rfl
   apply a_take (L' := [true, true, true, true, true, true, true, true, true, true, false, false, false, false, false, false, false]) 9 rfl (by kernel_rfl) (by kernel_rfl) (by kernel_rfl) rfl rfl rfl rfl rfl (hw96.ok mem6)
   ·intro wS sS
    refine l_move rfl rfl rfl (l_nil ?_)
    exact e_got rfl
   apply a_take (L' := [true, true, true, true, true, true, true, true, true, true, false, true, false, false, false, false, false]) 11 rfl (by kernel_rfl) (by kernel_rfl) (by kernel_rfl) rfl rfl rfl rfl rfl (hw96.ok mem6)
   ·intro wS sS
    refine l_move rfl rfl rfl (l_nil ?_)
    exact e_got rfl
   apply a_take (L' := [true, true, true, true, true, true, true, true, true, true, false, true, true, false, false, false, false]) 12 rfl (by kernel_rfl) (by kernel_rfl) (by kernel_rfl) rfl rfl rfl rfl rfl (hw96.ok mem6)
   ·intro wS sS
    refine l_indexAo (j := s) (o := 0) (n := 1) rfl rfl Try.underlying54 tz3 rfl rfl rfl (by omega) ?_
    rw [Nat.mul_one, Nat.zero_add]
    refine l_nil ?_
    exact e_got rfl
   apply a_take (L' := [true, true, true, true, true, true, true, true, true, true, false, true, true, true, false, false, false]) 13 rfl (by kernel_rfl) (by kernel_rfl) (by kernel_rfl) rfl rfl rfl rfl rfl (hw96.ok mem6)
   ·intro wS sS
    refine l_load_blk (blk_st sS) mem0 rfl rfl Try.underlying3 rfl rfl (refC_at (by omega)) ?_
    refine l_nil ?_
    exact e_got rfl
   apply a_take (L' := [true, true, true, true, true, true, true, true, true, true, false, true, true, true, true, false, false]) 14 rfl (by kernel_rfl) (by kernel_rfl) (by kernel_rfl) rfl rfl rfl rfl rfl (hw96.ok mem6)
   ·intro wS sS
    refine l_eql rfl rfl rfl rfl ?_
    refine l_nil ?_
    exact e_got rfl
   refine a_one (L' := [true, true, true, true, true, true, true, true, true, true, true, true, true, true, true, false, false]) 10 (by kernel_rfl) rfl rfl ?_
   have hw97 := St.frontL (l := [_, _, _]) hw96
   simp only [List.cons_append, List.nil_append] at hw97
   try clear hw96
   have hw98 := St.frontL (l := [_, _, _]) hw97
   simp only [List.cons_append, List.nil_append] at hw98
   try clear hw97
   have hw99 := St.frontL (l := [_, _, _]) hw98
   simp only [List.cons_append, List.nil_append] at hw99
   try clear hw98
   have hw100 := St.frontL (l := [_, _, _]) hw99
   simp only [List.cons_append, List.nil_append] at hw100
   try clear hw99
   refine l_callp rfl rfl Try.func20 rfl rfl (.cons rfl (.cons rfl .nil)) (CompleteG gb gZ hIg3.wf.sgX (s : Int) w91.drew (GF.of (σ := _) (b := gb) (X := gZ) hw100)) ?_
   refine l_nil ?_
   refine e_any (hw100.ok mem6) ?_
   apply a_take (L' := [true, true, true, true, true, true, true, true, true, true, true, true, true, true, true, true, false]) 15 rfl (by kernel_rfl) (by kernel_rfl) (by kernel_rfl) rfl rfl rfl rfl rfl (hw100.ok mem6)
   ·intro wS sS
    refine l_neqb Try.underlying4 rfl rfl rfl rfl ?_
    refine l_turn (s := 141) (v' := .bool false) rfl (by rw [hbs.2]; cases F.getD s false <;> rfl) ?_
    refine l_nil ?_
    exact e_got rfl
   apply a_take (L' := [true, true, true, true, true, true, true, true, true, true, true, true, true, true, true, true, true]) 16 rfl (by kernel_rfl) (by kernel_rfl) (by kernel_rfl) rfl rfl rfl rfl rfl (hw100.ok mem6)
   ·intro wS sS
    refine l_pick_f rfl rfl rfl rfl ?_
    refine l_nil ?_
    exact e_got rfl
   refine a_done (by kernel_rfl) ?_
   refine e_then ?_
   refine c_keep [0, 5, 7, 8, 9, 15, 142] (.cons rfl (.cons rfl (.cons rfl (.cons rfl (.cons rfl (.cons rfl (.cons rfl .nil))))))) ?_
   refine c_cond_f rfl rfl ?_
   refine c_skip ?_
   refine e_blk ?_
   refine e_then ?_
   refine c_keep [0, 5, 7, 8, 9, 15] (.cons rfl (.cons rfl (.cons rfl (.cons rfl (.cons rfl (.cons rfl .nil)))))) ?_
   refine c_region ?_
   have hw101 := St.frontL (l := [_, _, _, _, _, _]) hw100
   simp only [List.cons_append, List.nil_append] at hw101
   try clear hw100
   have hw102 := St.frontL (l := [_, _, _, _, _, _]) hw101
   simp only [List.cons_append, List.nil_append] at hw102
   try clear hw101
   have hw103 := St.frontL (l := [_, _, _, _, _, _]) hw102
   simp only [List.cons_append, List.nil_append] at hw103
   try clear hw102
   have hw104 := St.frontL (l := [_, _, _, _, _, _]) hw103
   simp only [List.cons_append, List.nil_append] at hw104
   try clear hw103
   have hw105 := St.frontL (l := [_, _, _, _, _, _]) hw104
   simp only [List.cons_append, List.nil_append] at hw105
   try clear hw104
   have hw106 := St.frontL (l := [_, _, _, _, _, _]) hw105
   simp only [List.cons_append, List.nil_append] at hw106
   try clear hw105
   have hw107 := St.frontL (l := [_, _, _, _, _, _]) hw106
   simp only [List.cons_append, List.nil_append] at hw107
   try clear hw106
   refine l_move rfl rfl rfl ?_
   refine l_add rfl rfl rfl rfl (w_i64 (by omega)) ?_
   refine l_assign rfl rfl rfl (l_nil ?_)
   refine e_againk (i := (s)) (s + 1) ?_ ?_ (.cons rfl (.cons rfl (.cons rfl (.cons rfl (.cons rfl .nil))))) ?_
   ·first | omega | (simp; omega)
   ·exact ⟨hw107, by omega⟩
   ·exact (.cons rfl (by first | rfl | (refine congrArg (Value.int _) ?_; omega)) .nil)
  ·skip
   refine c_exit ?_
   refine e_then_exit ?_
   refine e_then_exit ?_
   refine e_blk_exit ?_
   refine e_then ?_
   refine c_keep [0, 5, 7, 8] (.cons rfl (.cons rfl (.cons rfl (.cons rfl .nil)))) ?_
   refine c_seq (c_region ?_)
   have hov3 := hIg3.over.2 hmg
   have hte : lenS ((asksF ls).take i) = lenS (asksF ls) := by rw [List.take_of_length_le hil]
   have hdo : (doRes gZ.abs 0).1 = 281 := by unfold doRes; rw [if_neg (by rw [hmg]; simp)]
   refine l_move rfl rfl rfl ?_
   have hw108 := St.frontL (l := [_, _, _]) hw91
   simp only [List.cons_append, List.nil_append] at hw108
   try clear hw91
   have hw109 := St.frontL (l := [_, _, _]) hw108
   simp only [List.cons_append, List.nil_append] at hw109
   try clear hw108
   have hw110 := St.frontL (l := [_, _, _]) hw109
   simp only [List.cons_append, List.nil_append] at hw110
   try clear hw109
   have hw111 := St.frontL (l := [_, _, _]) hw110
   simp only [List.cons_append, List.nil_append] at hw111
   try clear hw110
   refine l_call rfl rfl Try.func21 rfl rfl (.cons rfl .nil) (OverG gb gZ hIg3.wf w91 (GF.of (σ := _) (b := gb) (X := gZ) hw111)) ?_
   rintro _ w112 ⟨rfl, hG⟩
   have hw112 := hG _ _ _ _ hw111
   try clear hG hw111
   simp only [List.cons_append, List.nil_append] at hw112
   refine l_turn (s := 144) (v' := .bool true) rfl (by exact congrArg Value.bool hov3) ?_
   refine l_move rfl rfl rfl (l_move rfl rfl rfl ?_)
   refine l_call rfl rfl Try.func17 rfl rfl (.cons rfl .nil) (MovesG gb gZ hIg3.wf w112 (St.rows (τ := gW gb gZ) hw112)) ?_
   rintro mv2 w113 ⟨_, rfl, hX2⟩
   have hw113 := hX2 _ _ _ _ hw112
   simp only [gW, List.cons_append, List.nil_append] at hw113
   try clear hX hw112
   refine k_len rfl rfl Try.underlying38 rfl (Own.ik (movesR_rows _) (hw113.ok mem4)) ?_
   refine l_turn (s := 148) (v' := .int .i64 ((movesG gZ.abs).length : Int)) rfl (by rw [movesR_len]) ?_
   refine l_eql rfl rfl rfl rfl ?_
   refine l_turn (s := 149) (v' := .bool true) rfl (by rw [hmg]; rfl) ?_
   refine l_pick_t rfl rfl rfl rfl ?_
   refine l_move rfl rfl rfl (l_move rfl rfl rfl (l_move rfl rfl rfl ?_))
   refine l_add rfl rfl rfl rfl (w_i64 (by omega)) ?_
   refine l_leq rfl rfl rfl rfl ?_
   refine l_turn (s := 155) (v' := .bool true) rfl (by exact congrArg Value.bool (decide_eq_true (by omega))) ?_
   refine l_pick_t rfl rfl rfl rfl ?_
   refine l_move rfl rfl rfl (l_move rfl rfl rfl (l_move rfl rfl rfl ?_))
   refine l_call rfl rfl Try.func27 rfl rfl (.cons rfl (.cons rfl .nil)) (honestL gb gZ vo (xs.map Prod.fst) (asksF ls) (xs_len hxs) (asksF_ok ls) hIg3 w113 (GF.of (σ := _) (b := gb) (X := gZ) hw113) (hw113.io mem5) (xs_iv (hw113.ok mem6) hxs)) ?_
   rintro _ w114 ⟨rfl, hG⟩
   have hw114 := hG _ _ _ _ hw113
   try clear hG hw113
   simp only [List.cons_append, List.nil_append] at hw114
   refine l_turn (s := 160) (v' := .bool true) rfl (by rfl) ?_
   refine l_pick_t rfl rfl rfl rfl ?_
   refine l_move rfl rfl rfl (l_move rfl rfl rfl ?_)
   have hw115 := St.frontL (l := [_, _, _]) hw114
   simp only [List.cons_append, List.nil_append] at hw115
   try clear hw114
   have hw116 := St.frontL (l := [_, _, _]) hw115
   simp only [List.cons_append, List.nil_append] at hw116
   try clear hw115
   have hw117 := St.frontL (l := [_, _, _]) hw116
   simp only [List.cons_append, List.nil_append] at hw117
   try clear hw116
   have hw118 := St.frontL (l := [_, _, _]) hw117
   simp only [List.cons_append, List.nil_append] at hw118
   try clear hw117
   refine l_call rfl rfl Try.func24 rfl rfl (.cons rfl (.cons rfl .nil)) (DoG gb gZ hIg3.wf 0 (by omega) w114 (St.rows (τ := gW gb gZ) hw118)) ?_
   rintro _ w119 ⟨gU, rfl, hU, hX2⟩
   have hw119 := hX2 _ _ _ _ hw118
   simp only [gW, List.cons_append, List.nil_append] at hw119
   try clear hX hw118
   refine l_callp rfl rfl Try.func10 rfl rfl (.cons rfl .nil) (numL28 _ _) ?_
   refine l_eql rfl rfl rfl rfl ?_
   refine l_turn (s := 166) (v' := .bool true) rfl (by rw [hdo]; rfl) ?_
   refine l_pick_t rfl rfl rfl rfl ?_
   refine l_assign rfl rfl rfl (l_nil (e_then ?_))
   refine c_keep [4] (.cons rfl .nil) ?_
   refine c_ret ?_
   refine e_done1 Try.results7 rfl ?_
   refine ⟨_, rfl, ?_⟩
   have hw120 := St.del (.tail (.tail (.tail (.tail (.tail (.tail (.tail .head))))))) hw119
   try clear hw119
   have hw121 := St.del (.tail (.tail (.tail (.tail (.tail (.tail .head)))))) hw120
   try clear hw120
   have hw122 := St.del (.tail (.tail (.tail (.tail (.tail .head))))) hw121
   try clear hw121
   have hw123 := St.del (.tail (.tail (.tail (.tail .head)))) hw122
   try clear hw122
   have hw124 := St.del (.tail (.tail (.tail .head))) hw123
   try clear hw123
   have hw125 := St.del (.tail (.tail .head)) hw124
   try clear hw124
   have hw126 := St.del (.tail .head) hw125
   try clear hw125
   have hw127 := St.del .head hw126
   try clear hw126
   exact ⟨rfl, hw127.grows⟩
end Go.Proofs.Ytgfkagaacdblbaa.W
