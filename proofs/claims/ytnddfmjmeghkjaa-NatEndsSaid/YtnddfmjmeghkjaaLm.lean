/- walks of mintagekeep.Book: closeWords, Close -/
import Derived.Test.YtnddfmjmeghkjaaLh
import Derived.Test.YtnddfmjmeghkjaaVf
set_option linter.unusedVariables false
set_option linter.unusedSimpArgs false
set_option maxRecDepth 10000
namespace Go.Proofs.Ytnddfmjmeghkjaa.W
open Go.Vc Go.RowKit

theorem getD_setB {α : Type} (l : List α) (i k : Nat) (x d : α) (h : i < l.length) : (l.set i x).getD k d = if i = k then x else l.getD k d := by
  by_cases e : i = k
  · subst e; simp [List.getD, h]
  · simp [List.getD, List.getElem?_set_ne e, e]
abbrev D0 : Value × List Int := (.bool true, [])
abbrev E0 : Value × Nat × Value := (.bool true, 0, .bool true)
abbrev bw (an : List (Value × List Int)) : Bag := an.map fun p => (p.1, ints .u64 p.2)
theorem bw_split {an : List (Value × List Int)} {i : Nat} (h : i < an.length) : bw an = bw (an.take i) ++ ((an.getD i D0).1, ints .u64 (an.getD i D0).2) :: bw (an.drop (i + 1)) := by
  have e : an.getD i D0 = an[i] := by simp [List.getD, h]
  rw [e]
  have : an = an.take i ++ an[i] :: an.drop (i + 1) := by rw [← List.drop_eq_getElem_cons h, List.take_append_drop]
  have h2 := congrArg (List.map fun p : Value × List Int => (p.1, ints .u64 p.2)) this
  simp only [List.map_append, List.map_cons] at h2
  exact h2
section
variable {w0 w : World} {B : Nat} {M : Nat → Prop} {σ : List As} {an : List (Value × List Int)} {i : Nat} {v : Value} {l : List Int}
theorem bag_pull (hw : St w0 B M (As.bag 22 (bw an) :: σ) w) (h : i < an.length) (hv : (an.getD i D0).1 = v) : St w0 B M (As.ri 22 .u64 v (an.getD i D0).2 :: As.bag 22 (bw (an.take i) ++ bw (an.drop (i + 1))) :: σ) w := by
  subst hv
  rw [bw_split h] at hw
  exact bag_out hw
theorem bag_push (hw : St w0 B M (As.ri 22 .u64 v l :: As.bag 22 (bw (an.take i) ++ bw (an.drop (i + 1))) :: σ) w) (h : i < an.length) : St w0 B M (As.bag 22 (bw (an.set i (v, l))) :: σ) w := by
  have := bag_in hw
  refine this.cast ?_
  rw [List.set_eq_take_append_cons_drop, if_pos h]
  simp [bw]
theorem bag_head (hw : St w0 B M (As.bag 22 (bw (an.drop i)) :: σ) w) (h : i < an.length) (hv : (an.getD i D0).1 = v) (hl : (an.getD i D0).2 = l) : St w0 B M (As.both 22 v (ints .u64 l) v (ints .u64 l) :: As.bag 22 (bw (an.drop (i + 1))) :: σ) w := by
  subst hv hl
  have e : an.getD i D0 = an[i] := by simp [List.getD, h]
  have h2 : bw (an.drop i) = [] ++ ((an.getD i D0).1, ints .u64 (an.getD i D0).2) :: bw (an.drop (i + 1)) := by
    rw [List.drop_eq_getElem_cons h, e]; rfl
  rw [h2] at hw
  exact (bag_out hw).toBoth
end
/-- the books' answers, the first i written full with their marks -/
def Cur (an cur : List (Value × List Int)) (i : Nat) : Prop :=
  cur.length = an.length ∧ cur.map (·.1) = an.map (·.1) ∧ ∀ j, j < an.length → (cur.getD j D0).2.length = (an.getD j D0).2.length ∧ (j < i → (cur.getD j D0).2 = List.replicate (an.getD j D0).2.length (j : Int))
theorem Cur.fst {an cur : List (Value × List Int)} {i : Nat} (h : Cur an cur i) (j : Nat) : (cur.getD j D0).1 = (an.getD j D0).1 := by
  have := congrArg (fun l : List Value => l.getD j (.bool true)) h.2.1
  simp only [List.getD, List.getElem?_map] at this ⊢
  cases h1 : cur[j]? <;> cases h2 : an[j]? <;> simp_all
theorem Cur.next {an cur : List (Value × List Int)} {i : Nat} {l : List Int} (h : Cur an cur i) (hi : i < an.length) (hl : l.length = (an.getD i D0).2.length) (hx : ∀ t, t < l.length → l.getD t 0 = (i : Int)) : Cur an (cur.set i ((an.getD i D0).1, l)) (i + 1) := by
  have hc := h.1
  refine ⟨by simpa using hc, ?_, fun j hj => ?_⟩
  · rw [List.map_set, h.2.1]
    apply List.ext_getElem?
    intro j
    rw [List.getElem?_set]
    split
    · rename_i e
      subst e
      simp [List.getD, hi]
    · rfl
  · have hlr : l = List.replicate (an.getD i D0).2.length (i : Int) := by
      rw [← hl]
      refine List.ext_getElem (by simp) fun t h1 h2 => ?_
      have := hx t h1
      simpa [List.getD, h1] using this
    rw [getD_setB _ _ _ _ _ (by omega)]
    by_cases e : i = j
    · subst e
      rw [if_pos rfl]
      exact ⟨hl, fun _ => hlr⟩
    · rw [if_neg e]
      exact ⟨(h.2.2 j hj).1, fun hji => (h.2.2 j hj).2 (by omega)⟩
/-- an answer and what it was grown to -/
def pairOf (j : Nat) (p : Value × Nat × Value) : As := As.both 22 p.1 (ints .u64 (List.replicate p.2.1 (j : Int))) p.2.2 (ints .u64 (List.replicate p.2.1 (j : Int)) ++ [.int .u64 ((j : Int) + 1000)] ++ [.int .u64 ((j : Int) + 1001)])
theorem pair_iv {w0 w : World} {B : Nat} {M : Nat → Prop} {σ : List As} {gs : List (Value × Nat × Value)} {q n : Nat} {v : Value} (hw : St w0 B M σ w) (hm : As.many (gs.mapIdx pairOf) ∈ σ) (h : q < gs.length) (hv : (gs.getD q E0).1 = v) (hn : (gs.getD q E0).2.1 = n) :
    IV w v (ints .u64 (List.replicate n (q : Int))) ∧ IV w (gs.getD q E0).2.2 (ints .u64 (List.replicate n (q : Int) ++ [(q : Int) + 1000, (q : Int) + 1001])) := by
  subst hv hn
  have e : gs.getD q E0 = gs[q] := by simp [List.getD, h]
  have h1 : pairOf q gs[q] ∈ gs.mapIdx pairOf := List.mem_iff_getElem.2 ⟨q, by simpa using h, by simp⟩
  have h2 := many_ok hw hm h1
  rw [e]
  refine ⟨h2.1, ?_⟩
  have h3 := h2.2.1.iv
  simpa [ints] using h3
theorem map_at3 {gs : List (Value × Nat × Value)} {i : Nat} (h : i < gs.length) : (gs.map (·.2.2))[((i : Nat) : Int).toNat]? = some (gs.getD i E0).2.2 := by
  rw [Int.toNat_natCast, List.getElem?_map]
  simp [List.getD, h]
theorem gs_next {an : List (Value × List Int)} {gs : List (Value × Nat × Value)} {m : Nat} {g : Value} (h : ∀ j, j < m → (gs.getD j E0).1 = (an.getD j D0).1 ∧ (gs.getD j E0).2.1 = (an.getD j D0).2.length) (hl : gs.length = m) :
    ∀ j, j < m + 1 → ((gs ++ [((an.getD m D0).1, (an.getD m D0).2.length, g)]).getD j E0).1 = (an.getD j D0).1 ∧ ((gs ++ [((an.getD m D0).1, (an.getD m D0).2.length, g)]).getD j E0).2.1 = (an.getD j D0).2.length := fun j hj => by
  by_cases e : j = m
  · subst e; subst hl; simp [List.getD]
  · have := h j (by omega)
    simpa [List.getD, List.getElem?_append_left (show j < gs.length by omega)] using this
theorem rep_u {n : Nat} {q : Int} (h : 0 ≤ q ∧ q ≤ 1000000) : U (List.replicate n q) := fun x hx => by rw [(List.mem_replicate.1 hx).2]; omega
theorem rep2_u {n : Nat} {q : Int} (h : 0 ≤ q ∧ q ≤ 1000000) : U (List.replicate n q ++ [q + 1000, q + 1001]) := fun x hx => by
  simp only [List.mem_append, List.mem_replicate, List.mem_cons, List.not_mem_nil, or_false] at hx
  omega
theorem rep_at {n j : Nat} {q : Int} (h : j < n) : (List.replicate n q).getD j 0 = q := by simp [List.getD, h]
theorem rep2_at {n j : Nat} {q : Int} (h : j < n) : (List.replicate n q ++ [q + 1000, q + 1001]).getD j 0 = q := by simp [List.getD, List.getElem?_append_left, h]
theorem rep2_at1 {n : Nat} {q : Int} : (List.replicate n q ++ [q + 1000, q + 1001]).getD (List.replicate n q).length 0 = q + 1000 := by simp [List.getD]
theorem rep2_at2 {n : Nat} {q : Int} : (List.replicate n q ++ [q + 1000, q + 1001]).getD ((List.replicate n q).length + 1) 0 = q + 1001 := by simp [List.getD]

theorem closeW (kb : Nat) (vw vm : Value) (an cp : List (Value × List Int)) (hn : an.length ≤ 400) (hL : ∀ i, i < an.length → (an.getD i D0).2.length ≤ 1099511627776) (w : World) (hS : Sep w.heap.size (fps (book kb vw vm an cp)) w (book kb vw vm an cp)) :
    CallsV P 60 [.pointer (some ⟨kb, 0, none⟩)] w fun r w' => r = .bool true ∧ Trans w w' (book kb vw vm an cp) [As.blk kb 51 [.slice none 0 0, .slice none 0 0, vw, vm, .slice none 0 0, .slice none 0 0]] := by
  refine enterW Try.func60 rfl Try.ntmps60 rfl ?_
  have hw0 := St.startS hS
  have hw0 : St w w.heap.size (fps (book kb vw vm an cp)) [As.blk kb 51 [.slice none 0 0, .slice none 0 0, vw, vm, .slice none 0 0, .slice none 0 0], As.ro 25 vw (an.map (·.1)), As.ro 25 vm (cp.map (·.1)), As.bag 22 (an.map fun p => (p.1, ints .u64 p.2)), As.bag 22 (cp.map fun p => (p.1, ints .u64 p.2))] w := hw0
  have hnil := IV.nil w
  refine c_seq ?_
  refine c_region ?_
  refine l_assign rfl rfl rfl ?_
  refine l_nil ?_
  refine e_then ?_
  refine c_keep [0] (.cons rfl .nil) ?_
  refine c_seq ?_
  refine c_seq ?_
  refine c_region ?_
  refine l_assign rfl rfl rfl ?_
  refine l_nil ?_
  refine e_then ?_
  refine c_block ?_
  refine c_loopk (ι := Nat × List (Value × List Int)) (fun (z0 : Nat × List (Value × List Int)) => match z0 with | ⟨i, cur⟩ => an.length - i) (fun (z0 : Nat × List (Value × List Int)) (w' : World) => match z0 with | ⟨i, cur⟩ => St w w.heap.size (fps (book kb vw vm an cp)) ([As.bag 22 (bw cur), As.blk kb 51 [.slice none 0 0, .slice none 0 0, vw, vm, .slice none 0 0, .slice none 0 0], As.ro 25 vw (an.map (·.1)), As.ro 25 vm (cp.map (·.1)), As.bag 22 (cp.map fun p => (p.1, ints .u64 p.2))]) w' ∧ i ≤ an.length ∧ Cur an cur i) (fun (z0 : Nat × List (Value × List Int)) => match z0 with | ⟨i, cur⟩ => [(3, .int .i64 (i : Int))]) [0] (0, an) ?_ (.cons rfl .nil) ?_ ?_
  · exact ⟨hw0.front3, by omega, rfl, rfl, fun j hj => ⟨rfl, fun h => by omega⟩⟩
  · exact (.cons rfl (by first | rfl | (refine congrArg (Value.int _) ?_; omega)) .nil)
  rintro ⟨i, cur⟩ w1 ⟨hw1, hi, hcur⟩
  show RunC P _ _ _ (_ :: _) _
  refine c_seq ?_
  refine c_seq ?_
  refine c_region ?_
  refine l_move rfl rfl rfl ?_
  refine l_move rfl rfl rfl ?_
  refine l_nilCheck rfl rfl rfl ?_
  refine l_field fo51_2 rfl rfl rfl ?_
  refine l_load_blk hw1 mem1 rfl rfl Try.underlying48 rfl rfl rfl ?_
  refine v_len rfl rfl Try.underlying48 rfl (by first | exact hw1.ibl mem1 | exact hw1.io mem2 | exact hw1.io mem3 | assumption) ?_
  refine l_lss rfl rfl rfl rfl ?_
  refine l_nil ?_
  refine e_then ?_
  refine c_keep [0, 3, 17] (.cons rfl (.cons rfl (.cons rfl .nil))) ?_
  first | refine c_cond rfl (fun hc0 => ?_) (fun hc0 => ?_) | refine c_condb rfl (fun hc0 => ?_) (fun hc0 => ?_)
  · skip
    refine c_skip ?_
    refine e_then ?_
    refine c_keep [0, 3] (.cons rfl (.cons rfl .nil)) ?_
    refine c_seq ?_
    refine c_block ?_
    refine c_seq ?_
    refine c_region ?_
    have hi1 : i < an.length := by simp at hc0; omega
    have hlen := hL i hi1
    have hw2 := bag_pull (i := i) hw1 (by rw [hcur.1]; exact hi1) (hcur.fst i)
    try clear hw1
    refine l_assign rfl rfl rfl ?_
    refine l_nil ?_
    refine e_then ?_
    refine c_block ?_
    refine c_loopk (ι := Nat × List Int) (fun (z0 : Nat × List Int) => match z0 with | ⟨j, l⟩ => (an.getD i D0).2.length - j) (fun (z0 : Nat × List Int) (w' : World) => match z0 with | ⟨j, l⟩ => St w w.heap.size (fps (book kb vw vm an cp)) ([As.ri 22 .u64 (an.getD i D0).1 l, As.bag 22 (bw (cur.take i) ++ bw (cur.drop (i + 1))), As.blk kb 51 [.slice none 0 0, .slice none 0 0, vw, vm, .slice none 0 0, .slice none 0 0], As.ro 25 vw (an.map (·.1)), As.ro 25 vm (cp.map (·.1)), As.bag 22 (cp.map fun p => (p.1, ints .u64 p.2))]) w' ∧ j ≤ l.length ∧ l.length = (an.getD i D0).2.length ∧ ∀ t, t < j → l.getD t 0 = (i : Int)) (fun (z0 : Nat × List Int) => match z0 with | ⟨j, l⟩ => [(4, .int .i64 (j : Int))]) [0, 3] (0, (cur.getD i D0).2) ?_ (.cons rfl (.cons rfl .nil)) ?_ ?_
    · exact ⟨hw2, by omega, (hcur.2.2 i hi1).1, fun t ht => by omega⟩
    · exact (.cons rfl (by first | rfl | (refine congrArg (Value.int _) ?_; omega)) .nil)
    rintro ⟨j, l⟩ w3 ⟨hw3, hj, hll, hlt⟩
    show RunC P _ _ _ (_ :: _) _
    refine c_seq ?_
    refine c_seq ?_
    refine c_region ?_
    refine l_move rfl rfl rfl ?_
    refine l_move rfl rfl rfl ?_
    refine l_nilCheck rfl rfl rfl ?_
    refine l_field fo51_2 rfl rfl rfl ?_
    refine l_load_blk hw3 mem2 rfl rfl Try.underlying48 rfl rfl rfl ?_
    refine l_move rfl rfl rfl ?_
    refine v_get rfl rfl rfl rfl Try.underlying48 tz25 Try.underlying25 rfl rfl rfl (by first | exact hw3.io mem0 | exact hw3.ibl mem2 | exact hw3.io mem3 | exact hw3.io mem4 | assumption) (by first | omega | (simp; omega)) (map_at hi1) ?_ rfl
    refine v_leni rfl rfl Try.underlying25 rfl (by first | exact hw3.io mem0 | exact hw3.ibl mem2 | exact hw3.io mem3 | exact hw3.io mem4 | assumption) ?_
    refine l_lss rfl rfl rfl rfl ?_
    refine l_nil ?_
    refine e_then ?_
    refine c_keep [0, 3, 4, 29] (.cons rfl (.cons rfl (.cons rfl (.cons rfl .nil)))) ?_
    first | refine c_cond rfl (fun hc1 => ?_) (fun hc1 => ?_) | refine c_condb rfl (fun hc1 => ?_) (fun hc1 => ?_)
    · skip
      refine c_skip ?_
      refine e_then ?_
      refine c_keep [0, 3, 4] (.cons rfl (.cons rfl (.cons rfl .nil))) ?_
      refine c_seq ?_
      refine c_block ?_
      refine c_region ?_
      refine l_move rfl rfl rfl ?_
      refine l_nilCheck rfl rfl rfl ?_
      refine l_field fo51_2 rfl rfl rfl ?_
      refine l_load_blk hw3 mem2 rfl rfl Try.underlying48 rfl rfl rfl ?_
      refine l_move rfl rfl rfl ?_
      refine v_get rfl rfl rfl rfl Try.underlying48 tz25 Try.underlying25 rfl rfl rfl (by first | exact hw3.io mem0 | exact hw3.ibl mem2 | exact hw3.io mem3 | exact hw3.io mem4 | assumption) (by first | omega | (simp; omega)) (map_at hi1) ?_ rfl
      refine l_move rfl rfl rfl ?_
      refine l_move rfl rfl rfl ?_
      refine l_conv rfl rfl Try.underlying3 Try.underlying22 rfl (w_u64 (by omega)) ?_
      refine v_addrn (j := j) rfl rfl Try.underlying25 tz22 rfl rfl (by first | exact hw3.io mem0 | exact hw3.ibl mem2 | exact hw3.io mem3 | exact hw3.io mem4 | assumption) (by omega) (by first | omega | (simp; done) | (simp; omega)) (fun A7_10 c7_10 hA7_10 => ?_)
      refine v_storei hw3 .head hA7_10 rfl tz22 rfl rfl (by first | omega | (simp; done) | (simp; omega)) (fun w4 hw4 => ?_)
      try clear hw3
      refine l_nil ?_
      refine e_blk ?_
      refine e_then ?_
      refine c_keep [0, 3, 4] (.cons rfl (.cons rfl (.cons rfl .nil))) ?_
      refine c_region ?_
      refine l_move rfl rfl rfl ?_
      refine l_add rfl rfl rfl rfl (w_i64 (by omega)) ?_
      refine l_assign rfl rfl rfl ?_
      refine l_nil ?_
      refine e_againk (i := (j, l)) (j + 1, l.set j (i : Int)) ?_ ?_ (.cons rfl (.cons rfl .nil)) ?_
      · show (an.getD i D0).2.length - (j + 1) < (an.getD i D0).2.length - j
        omega
      · refine ⟨hw4, by simp; omega, by simpa using hll, fun t ht => ?_⟩
        rw [getD_setB _ _ _ _ _ (by omega)]
        split
        · rfl
        · exact hlt t (by omega)
      · exact (.cons rfl (by first | rfl | (refine congrArg (Value.int _) ?_; omega)) .nil)
    · skip
      refine c_exit ?_
      refine e_then_exit ?_
      refine e_then_exit ?_
      refine e_blk_exit ?_
      refine e_blk ?_
      refine e_then ?_
      refine c_keep [0, 3] (.cons rfl (.cons rfl .nil)) ?_
      refine c_region ?_
      have hw5 := bag_push hw3 (by rw [hcur.1]; exact hi1)
      try clear hw3
      refine l_move rfl rfl rfl ?_
      refine l_add rfl rfl rfl rfl (w_i64 (by omega)) ?_
      refine l_assign rfl rfl rfl ?_
      refine l_nil ?_
      refine e_againk (i := (i, cur)) (i + 1, cur.set i ((an.getD i D0).1, l)) ?_ ?_ (.cons rfl .nil) ?_
      · first | omega | (simp; omega)
      · exact ⟨hw5, by omega, hcur.next hi1 hll (fun t ht => hlt t (by omega))⟩
      · exact (.cons rfl (by first | rfl | (refine congrArg (Value.int _) ?_; omega)) .nil)
  · skip
    refine c_exit ?_
    refine e_then_exit ?_
    refine e_then_exit ?_
    refine e_blk_exit ?_
    refine e_then ?_
    refine c_keep [0] (.cons rfl .nil) ?_
    refine c_seq ?_
    refine c_region ?_
    refine l_assign rfl rfl rfl ?_
    refine l_nil ?_
    refine e_then ?_
    refine c_seq ?_
    refine c_seq ?_
    refine c_region ?_
    refine l_assign rfl rfl rfl ?_
    refine l_nil ?_
    refine e_then ?_
    refine c_block ?_
    refine c_loopk (ι := Nat × Value × List (Value × Nat × Value)) (fun (z0 : Nat × Value × List (Value × Nat × Value)) => match z0 with | ⟨m, vg, gs⟩ => an.length - m) (fun (z0 : Nat × Value × List (Value × Nat × Value)) (w' : World) => match z0 with | ⟨m, vg, gs⟩ => St w w.heap.size (fps (book kb vw vm an cp)) ([As.ro 25 vg (gs.map (·.2.2)), As.many (gs.mapIdx pairOf), As.bag 22 (bw (cur.drop m)), As.blk kb 51 [.slice none 0 0, .slice none 0 0, vw, vm, .slice none 0 0, .slice none 0 0], As.ro 25 vw (an.map (·.1)), As.ro 25 vm (cp.map (·.1)), As.bag 22 (cp.map fun p => (p.1, ints .u64 p.2))]) w' ∧ m ≤ an.length ∧ gs.length = m ∧ ∀ j, j < m → (gs.getD j E0).1 = (an.getD j D0).1 ∧ (gs.getD j E0).2.1 = (an.getD j D0).2.length) (fun (z0 : Nat × Value × List (Value × Nat × Value)) => match z0 with | ⟨m, vg, gs⟩ => [(5, vg), (6, .int .i64 (m : Int))]) [0] (0, .slice none 0 0, []) ?_ (.cons rfl .nil) ?_ ?_
    · exact ⟨(many_nil hw1).nil 25, by omega, rfl, fun j hj => by omega⟩
    · exact (.cons rfl (by first | rfl | (refine congrArg (Value.int _) ?_; omega)) (.cons rfl (by first | rfl | (refine congrArg (Value.int _) ?_; omega)) .nil))
    rintro ⟨m, vg, gs⟩ w6 ⟨hw6, hm, hgl, hgs⟩
    show RunC P _ _ _ (_ :: _) _
    refine c_seq ?_
    refine c_seq ?_
    refine c_region ?_
    refine l_move rfl rfl rfl ?_
    refine l_move rfl rfl rfl ?_
    refine l_nilCheck rfl rfl rfl ?_
    refine l_field fo51_2 rfl rfl rfl ?_
    refine l_load_blk hw6 mem3 rfl rfl Try.underlying48 rfl rfl rfl ?_
    refine v_len rfl rfl Try.underlying48 rfl (by first | exact hw6.io mem0 | exact hw6.ibl mem3 | exact hw6.io mem4 | exact hw6.io mem5 | assumption) ?_
    refine l_lss rfl rfl rfl rfl ?_
    refine l_nil ?_
    refine e_then ?_
    refine c_keep [0, 5, 6, 49] (.cons rfl (.cons rfl (.cons rfl (.cons rfl .nil)))) ?_
    first | refine c_cond rfl (fun hc2 => ?_) (fun hc2 => ?_) | refine c_condb rfl (fun hc2 => ?_) (fun hc2 => ?_)
    · skip
      refine c_skip ?_
      refine e_then ?_
      refine c_keep [0, 5, 6] (.cons rfl (.cons rfl (.cons rfl .nil))) ?_
      refine c_seq ?_
      refine c_block ?_
      refine c_seq ?_
      refine c_region ?_
      have hm1 : m < an.length := by simp at hc2; omega
      have hcm := hcur.2.2 m hm1
      have hlm := hL m hm1
      refine l_move rfl rfl rfl ?_
      refine l_nilCheck rfl rfl rfl ?_
      refine l_field fo51_2 rfl rfl rfl ?_
      refine l_load_blk hw6 mem3 rfl rfl Try.underlying48 rfl rfl rfl ?_
      refine l_move rfl rfl rfl ?_
      refine v_get rfl rfl rfl rfl Try.underlying48 tz25 Try.underlying25 rfl rfl rfl (by first | exact hw6.io mem0 | exact hw6.ibl mem3 | exact hw6.io mem4 | exact hw6.io mem5 | assumption) (by first | omega | (simp; omega)) (map_at hm1) ?_ rfl
      refine l_move rfl rfl rfl ?_
      refine l_add rfl rfl rfl rfl (w_i64 (by omega)) ?_
      refine l_conv rfl rfl Try.underlying3 Try.underlying22 rfl (w_u64 (by omega)) ?_
      have hw7 := bag_head hw6.front2 (by rw [hcur.1]; exact hm1) (hcur.fst m) ((hcur.2.2 m hm1).2 (by omega))
      try clear hw6
      refine v_lit hw7 rfl rfl Try.underlying25 ti22 rfl (.cons rfl (by first | rfl | assumption) .nil) rfl rfl rfl (fun b12_10 w8 hw8 => ?_)
      try clear hw7
      refine v_append_both hw8.forget rfl rfl Try.underlying25 ti22 rfl rfl rfl (hw8.ibl mem0) (by simp [Value.oneCell']) (by simp only [List.length_append, List.length_map, List.length_replicate, List.length_cons, List.length_nil]; omega) (by simp only [List.length_append, List.length_map, List.length_replicate, List.length_cons, List.length_nil]; omega) (fun g1 w9 hw9 => ?_)
      try clear hw8
      refine l_assign rfl rfl rfl ?_
      refine l_nil ?_
      refine e_then ?_
      refine c_keep [0, 5, 6, 7] (.cons rfl (.cons rfl (.cons rfl (.cons rfl .nil)))) ?_
      refine c_region ?_
      refine l_move rfl rfl rfl ?_
      refine l_move rfl rfl rfl ?_
      refine l_move rfl rfl rfl ?_
      refine l_add rfl rfl rfl rfl (w_i64 (by omega)) ?_
      refine l_conv rfl rfl Try.underlying3 Try.underlying22 rfl (w_u64 (by omega)) ?_
      refine v_lit hw9 rfl rfl Try.underlying25 ti22 rfl (.cons rfl (by first | rfl | assumption) .nil) rfl rfl rfl (fun b13_5 w10 hw10 => ?_)
      try clear hw9
      refine v_append_both hw10.forget rfl rfl Try.underlying25 ti22 rfl rfl rfl (hw10.ibl mem0) (by simp [Value.oneCell']) (by simp only [List.length_append, List.length_map, List.length_replicate, List.length_cons, List.length_nil]; omega) (by simp only [List.length_append, List.length_map, List.length_replicate, List.length_cons, List.length_nil]; omega) (fun g2 w11 hw11 => ?_)
      try clear hw10
      have hw12 := St.front2 hw11
      try clear hw11
      have hg2 := slice_one (both_iv' hw12 mem1)
      refine v_lit hw12 rfl rfl Try.underlying48 ti25 rfl (.cons rfl (by first | rfl | assumption) .nil) rfl rfl rfl (fun b13_7 w13 hw13 => ?_)
      try clear hw12
      refine v_push hw13 rfl rfl Try.underlying48 ti25 rfl rfl rfl rfl (by first | (simp [Value.oneCell']; done) | (intro u hu; rw [List.mem_singleton.1 hu]; assumption)) (by first | (simp; done) | (simp; omega)) (by first | (simp; done) | (simp; omega)) (fun v13_8 w14 hw14 => ?_)
      try clear hw13
      refine l_assign rfl rfl rfl ?_
      refine l_nil ?_
      refine e_blk ?_
      refine e_then ?_
      refine c_keep [0, 5, 6] (.cons rfl (.cons rfl (.cons rfl .nil))) ?_
      refine c_region ?_
      have hw15 := (many_in (hw14.front3.front2)).front1
      try clear hw14
      refine l_move rfl rfl rfl ?_
      refine l_add rfl rfl rfl rfl (w_i64 (by omega)) ?_
      refine l_assign rfl rfl rfl ?_
      refine l_nil ?_
      refine e_againk (i := (m, vg, gs)) (m + 1, v13_8, gs ++ [((an.getD m D0).1, (an.getD m D0).2.length, g2)]) ?_ ?_ (.cons rfl .nil) ?_
      · first | omega | (simp; omega)
      · exact ⟨hw15.cast (by rw [List.mapIdx_concat, hgl]; simp [pairOf]), by omega, by simp [hgl], gs_next hgs hgl⟩
      · exact (.cons rfl (by first | rfl | (refine congrArg (Value.int _) ?_; omega)) (.cons rfl (by first | rfl | (refine congrArg (Value.int _) ?_; omega)) .nil))
    · skip
      refine c_exit ?_
      refine e_then_exit ?_
      refine e_then_exit ?_
      refine e_blk_exit ?_
      refine e_then ?_
      refine c_keep [0, 5] (.cons rfl (.cons rfl .nil)) ?_
      refine c_seq ?_
      refine c_seq ?_
      refine c_region ?_
      refine l_assign rfl rfl rfl ?_
      refine l_nil ?_
      refine e_then ?_
      refine c_block ?_
      refine c_loopk (ι := Nat) (fun (q : Nat) => gs.length - q) (fun (q : Nat) (w' : World) => St w w.heap.size (fps (book kb vw vm an cp)) ([As.ro 25 vg (gs.map (·.2.2)), As.many (gs.mapIdx pairOf), As.bag 22 (bw (cur.drop m)), As.blk kb 51 [.slice none 0 0, .slice none 0 0, vw, vm, .slice none 0 0, .slice none 0 0], As.ro 25 vw (an.map (·.1)), As.ro 25 vm (cp.map (·.1)), As.bag 22 (cp.map fun p => (p.1, ints .u64 p.2))]) w' ∧ q ≤ gs.length) (fun (q : Nat) => [(8, .int .i64 (q : Int))]) [0, 5] (0) ?_ (.cons rfl (.cons rfl .nil)) ?_ ?_
      · exact ⟨hw6, by omega⟩
      · exact (.cons rfl (by first | rfl | (refine congrArg (Value.int _) ?_; omega)) .nil)
      rintro q w16 ⟨hw16, hq⟩
      show RunC P _ _ _ (_ :: _) _
      refine c_seq ?_
      refine c_seq ?_
      refine c_region ?_
      refine l_move rfl rfl rfl ?_
      refine l_move rfl rfl rfl ?_
      refine v_len rfl rfl Try.underlying48 rfl (by first | exact hw16.io mem0 | exact hw16.ibl mem3 | exact hw16.io mem4 | exact hw16.io mem5 | assumption) ?_
      refine l_lss rfl rfl rfl rfl ?_
      refine l_nil ?_
      refine e_then ?_
      refine c_keep [0, 5, 8, 76] (.cons rfl (.cons rfl (.cons rfl (.cons rfl .nil)))) ?_
      first | refine c_cond rfl (fun hc3 => ?_) (fun hc3 => ?_) | refine c_condb rfl (fun hc3 => ?_) (fun hc3 => ?_)
      · skip
        refine c_skip ?_
        refine e_then ?_
        refine c_keep [0, 5, 8] (.cons rfl (.cons rfl (.cons rfl .nil))) ?_
        refine c_seq ?_
        refine c_block ?_
        refine c_seq ?_
        refine c_region ?_
        have hq1 : q < gs.length := by simpa using hc3
        have hlq := hL q (by omega)
        have hpq := pair_iv hw16 mem1 hq1 (hgs q (by omega)).1 (hgs q (by omega)).2
        obtain ⟨hA, hB⟩ := hpq
        have hUA := rep_u (n := (an.getD q D0).2.length) (q := (q : Int)) (by omega)
        have hUB := rep2_u (n := (an.getD q D0).2.length) (q := (q : Int)) (by omega)
        have hlA : (List.replicate (an.getD q D0).2.length (q : Int)).length = (an.getD q D0).2.length := by simp
        have hlB : (List.replicate (an.getD q D0).2.length (q : Int) ++ [(q : Int) + 1000, (q : Int) + 1001]).length = (an.getD q D0).2.length + 2 := by simp
        refine l_move rfl rfl rfl ?_
        refine l_nilCheck rfl rfl rfl ?_
        refine l_field fo51_2 rfl rfl rfl ?_
        refine l_load_blk hw16 mem3 rfl rfl Try.underlying48 rfl rfl rfl ?_
        refine l_move rfl rfl rfl ?_
        refine v_get rfl rfl rfl rfl Try.underlying48 tz25 Try.underlying25 rfl rfl rfl (by first | exact hw16.io mem0 | exact hw16.ibl mem3 | exact hw16.io mem4 | exact hw16.io mem5 | assumption) (by first | omega | (simp; omega)) (map_at (show q < an.length by omega)) ?_ rfl
        refine v_leni rfl rfl Try.underlying25 rfl (by first | exact hw16.io mem0 | exact hw16.ibl mem3 | exact hw16.io mem4 | exact hw16.io mem5 | assumption) ?_
        refine l_assign rfl rfl rfl ?_
        refine l_nil ?_
        refine e_then ?_
        refine c_keep [0, 5, 8, 9] (.cons rfl (.cons rfl (.cons rfl (.cons rfl .nil)))) ?_
        refine c_seq ?_
        refine c_seq ?_
        refine c_region ?_
        refine l_assign rfl rfl rfl ?_
        refine l_nil ?_
        refine e_then ?_
        refine c_block ?_
        refine c_loopk (ι := Nat) (fun (j : Nat) => (an.getD q D0).2.length - j) (fun (j : Nat) (w' : World) => St w w.heap.size (fps (book kb vw vm an cp)) ([As.ro 25 vg (gs.map (·.2.2)), As.many (gs.mapIdx pairOf), As.bag 22 (bw (cur.drop m)), As.blk kb 51 [.slice none 0 0, .slice none 0 0, vw, vm, .slice none 0 0, .slice none 0 0], As.ro 25 vw (an.map (·.1)), As.ro 25 vm (cp.map (·.1)), As.bag 22 (cp.map fun p => (p.1, ints .u64 p.2))]) w' ∧ j ≤ (an.getD q D0).2.length) (fun (j : Nat) => [(10, .int .i64 (j : Int))]) [0, 5, 8, 9] (0) ?_ (.cons rfl (.cons rfl (.cons rfl (.cons rfl .nil)))) ?_ ?_
        · exact ⟨hw16, by omega⟩
        · exact (.cons rfl (by first | rfl | (refine congrArg (Value.int _) ?_; omega)) .nil)
        rintro j w17 ⟨hw17, hj⟩
        show RunC P _ _ _ (_ :: _) _
        refine c_seq ?_
        refine c_seq ?_
        refine c_region ?_
        refine l_move rfl rfl rfl ?_
        refine l_move rfl rfl rfl ?_
        refine l_lss rfl rfl rfl rfl ?_
        refine l_nil ?_
        refine e_then ?_
        refine c_keep [0, 5, 8, 9, 10, 89] (.cons rfl (.cons rfl (.cons rfl (.cons rfl (.cons rfl (.cons rfl .nil)))))) ?_
        first | refine c_cond rfl (fun hc4 => ?_) (fun hc4 => ?_) | refine c_condb rfl (fun hc4 => ?_) (fun hc4 => ?_)
        · skip
          refine c_skip ?_
          refine e_then ?_
          refine c_keep [0, 5, 8, 9, 10] (.cons rfl (.cons rfl (.cons rfl (.cons rfl (.cons rfl .nil))))) ?_
          refine c_seq ?_
          refine c_block ?_
          refine c_seq ?_
          refine c_region ?_
          clear hA hB hUA hUB hlA hlB
          have hpq := pair_iv hw17 mem1 hq1 (hgs q (by omega)).1 (hgs q (by omega)).2
          obtain ⟨hA, hB⟩ := hpq
          have hUA := rep_u (n := (an.getD q D0).2.length) (q := (q : Int)) (by omega)
          have hUB := rep2_u (n := (an.getD q D0).2.length) (q := (q : Int)) (by omega)
          have hlA : (List.replicate (an.getD q D0).2.length (q : Int)).length = (an.getD q D0).2.length := by simp
          have hlB : (List.replicate (an.getD q D0).2.length (q : Int) ++ [(q : Int) + 1000, (q : Int) + 1001]).length = (an.getD q D0).2.length + 2 := by simp
          have hjq : j < (an.getD q D0).2.length := by omega
          refine l_move rfl rfl rfl ?_
          refine l_nilCheck rfl rfl rfl ?_
          refine l_field fo51_2 rfl rfl rfl ?_
          refine l_load_blk hw17 mem3 rfl rfl Try.underlying48 rfl rfl rfl ?_
          refine l_move rfl rfl rfl ?_
          refine v_get rfl rfl rfl rfl Try.underlying48 tz25 Try.underlying25 rfl rfl rfl (by first | exact hw17.io mem0 | exact hw17.ibl mem3 | exact hw17.io mem4 | exact hw17.io mem5 | assumption) (by first | omega | (simp; omega)) (map_at (show q < an.length by omega)) ?_ rfl
          refine l_move rfl rfl rfl ?_
          refine v_getr (j := j) rfl rfl rfl rfl Try.underlying25 tz22 Try.underlying22 rfl rfl (by first | exact hw17.io mem0 | exact hw17.ibl mem3 | exact hw17.io mem4 | exact hw17.io mem5 | assumption) (by assumption) rfl (by omega) (by first | omega | (simp; omega)) (fun hb21_8 => ?_)
          refine l_move rfl rfl rfl ?_
          refine l_conv rfl rfl Try.underlying3 Try.underlying22 rfl (w_u64 (by omega)) ?_
          refine l_neq rfl rfl rfl rfl ?_
          refine l_turn (s := 104) (v' := .bool false) rfl (by rw [rep_at hjq]; simp) ?_
          refine l_move rfl rfl rfl ?_
          refine l_move rfl rfl rfl ?_
          refine l_move rfl rfl rfl ?_
          refine v_get rfl rfl rfl rfl Try.underlying48 tz25 Try.underlying25 rfl rfl rfl (by first | exact hw17.io mem0 | exact hw17.ibl mem3 | exact hw17.io mem4 | exact hw17.io mem5 | assumption) (by first | omega | (simp; omega)) (map_at3 hq1) ?_ rfl
          refine l_move rfl rfl rfl ?_
          refine v_getr (j := j) rfl rfl rfl rfl Try.underlying25 tz22 Try.underlying22 rfl rfl (by first | exact hw17.io mem0 | exact hw17.ibl mem3 | exact hw17.io mem4 | exact hw17.io mem5 | assumption) (by assumption) rfl (by omega) (by first | omega | (simp; omega)) (fun hb21_19 => ?_)
          refine l_move rfl rfl rfl ?_
          refine l_conv rfl rfl Try.underlying3 Try.underlying22 rfl (w_u64 (by omega)) ?_
          refine l_neq rfl rfl rfl rfl ?_
          refine l_turn (s := 115) (v' := .bool false) rfl (by rw [rep2_at hjq]; simp) ?_
          refine l_pick_f rfl rfl rfl rfl ?_
          refine l_nil ?_
          refine e_then ?_
          refine c_keep [0, 5, 8, 9, 10, 116] (.cons rfl (.cons rfl (.cons rfl (.cons rfl (.cons rfl (.cons rfl .nil)))))) ?_
          refine c_cond_f rfl rfl ?_
          refine c_skip ?_
          refine e_blk ?_
          refine e_then ?_
          refine c_keep [0, 5, 8, 9, 10] (.cons rfl (.cons rfl (.cons rfl (.cons rfl (.cons rfl .nil))))) ?_
          refine c_region ?_
          refine l_move rfl rfl rfl ?_
          refine l_add rfl rfl rfl rfl (w_i64 (by omega)) ?_
          refine l_assign rfl rfl rfl ?_
          refine l_nil ?_
          refine e_againk (i := (j)) (j + 1) ?_ ?_ (.cons rfl (.cons rfl (.cons rfl (.cons rfl .nil)))) ?_
          · show (an.getD q D0).2.length - (j + 1) < (an.getD q D0).2.length - j
            omega
          · exact ⟨hw17, by omega⟩
          · exact (.cons rfl (by first | rfl | (refine congrArg (Value.int _) ?_; omega)) .nil)
        · skip
          refine c_exit ?_
          refine e_then_exit ?_
          refine e_then_exit ?_
          refine e_blk_exit ?_
          refine e_then ?_
          refine c_keep [0, 5, 8, 9] (.cons rfl (.cons rfl (.cons rfl (.cons rfl .nil)))) ?_
          refine c_seq ?_
          refine c_region ?_
          clear hA hB hUA hUB hlA hlB
          have hpq := pair_iv hw17 mem1 hq1 (hgs q (by omega)).1 (hgs q (by omega)).2
          obtain ⟨hA, hB⟩ := hpq
          have hUA := rep_u (n := (an.getD q D0).2.length) (q := (q : Int)) (by omega)
          have hUB := rep2_u (n := (an.getD q D0).2.length) (q := (q : Int)) (by omega)
          have hlA : (List.replicate (an.getD q D0).2.length (q : Int)).length = (an.getD q D0).2.length := by simp
          have hlB : (List.replicate (an.getD q D0).2.length (q : Int) ++ [(q : Int) + 1000, (q : Int) + 1001]).length = (an.getD q D0).2.length + 2 := by simp
          refine l_move rfl rfl rfl ?_
          refine l_move rfl rfl rfl ?_
          refine v_get rfl rfl rfl rfl Try.underlying48 tz25 Try.underlying25 rfl rfl rfl (by first | exact hw17.io mem0 | exact hw17.ibl mem3 | exact hw17.io mem4 | exact hw17.io mem5 | assumption) (by first | omega | (simp; omega)) (map_at3 hq1) ?_ rfl
          refine l_move rfl rfl rfl ?_
          refine v_getr (j := (List.replicate (an.getD q D0).2.length (q : Int)).length) rfl rfl rfl rfl Try.underlying25 tz22 Try.underlying22 rfl rfl (by first | exact hw17.io mem0 | exact hw17.ibl mem3 | exact hw17.io mem4 | exact hw17.io mem5 | assumption) (by assumption) rfl (by omega) (by first | omega | (simp; omega)) (fun hb23_5 => ?_)
          refine l_move rfl rfl rfl ?_
          refine l_add rfl rfl rfl rfl (w_i64 (by omega)) ?_
          refine l_conv rfl rfl Try.underlying3 Try.underlying22 rfl (w_u64 (by omega)) ?_
          refine l_neq rfl rfl rfl rfl ?_
          refine l_turn (s := 127) (v' := .bool false) rfl (by rw [rep2_at1]; simp) ?_
          refine l_move rfl rfl rfl ?_
          refine l_move rfl rfl rfl ?_
          refine l_move rfl rfl rfl ?_
          refine v_get rfl rfl rfl rfl Try.underlying48 tz25 Try.underlying25 rfl rfl rfl (by first | exact hw17.io mem0 | exact hw17.ibl mem3 | exact hw17.io mem4 | exact hw17.io mem5 | assumption) (by first | omega | (simp; omega)) (map_at3 hq1) ?_ rfl
          refine l_move rfl rfl rfl ?_
          refine l_add rfl rfl rfl rfl (w_i64 (by omega)) ?_
          refine v_getr (j := (List.replicate (an.getD q D0).2.length (q : Int)).length + 1) rfl rfl rfl rfl Try.underlying25 tz22 Try.underlying22 rfl rfl (by first | exact hw17.io mem0 | exact hw17.ibl mem3 | exact hw17.io mem4 | exact hw17.io mem5 | assumption) (by assumption) rfl (by omega) (by first | omega | (simp; omega)) (fun hb23_18 => ?_)
          refine l_move rfl rfl rfl ?_
          refine l_add rfl rfl rfl rfl (w_i64 (by omega)) ?_
          refine l_conv rfl rfl Try.underlying3 Try.underlying22 rfl (w_u64 (by omega)) ?_
          refine l_neq rfl rfl rfl rfl ?_
          refine l_turn (s := 140) (v' := .bool false) rfl (by rw [rep2_at2]; simp) ?_
          refine l_pick_f rfl rfl rfl rfl ?_
          refine l_nil ?_
          refine e_then ?_
          refine c_keep [0, 5, 8, 141] (.cons rfl (.cons rfl (.cons rfl (.cons rfl .nil)))) ?_
          refine c_cond_f rfl rfl ?_
          refine c_skip ?_
          refine e_blk ?_
          refine e_then ?_
          refine c_keep [0, 5, 8] (.cons rfl (.cons rfl (.cons rfl .nil))) ?_
          refine c_region ?_
          refine l_move rfl rfl rfl ?_
          refine l_add rfl rfl rfl rfl (w_i64 (by omega)) ?_
          refine l_assign rfl rfl rfl ?_
          refine l_nil ?_
          refine e_againk (i := (q)) (q + 1) ?_ ?_ (.cons rfl (.cons rfl .nil)) ?_
          · first | omega | (simp; omega)
          · exact ⟨hw17, by omega⟩
          · exact (.cons rfl (by first | rfl | (refine congrArg (Value.int _) ?_; omega)) .nil)
      · skip
        refine c_exit ?_
        refine e_then_exit ?_
        refine e_then_exit ?_
        refine e_blk_exit ?_
        refine e_then ?_
        refine c_keep [] .nil ?_
        refine c_seq ?_
        refine c_region ?_
        refine l_assign rfl rfl rfl ?_
        refine l_nil ?_
        refine e_then ?_
        refine c_ret ?_
        refine e_done1 Try.results60 rfl ?_
        refine ⟨_, rfl, ?_⟩
        have hw18 := St.del (.tail (.tail (.tail (.tail (.tail (.tail .head)))))) hw16
        try clear hw16
        have hw19 := St.del (.tail (.tail (.tail (.tail (.tail .head))))) hw18
        try clear hw18
        have hw20 := St.del (.tail (.tail (.tail (.tail .head)))) hw19
        try clear hw19
        have hw21 := St.del (.tail (.tail .head)) hw20
        try clear hw20
        have hw22 := St.del (.tail .head) hw21
        try clear hw21
        have hw23 := St.del .head hw22
        try clear hw22
        exact ⟨rfl, St.transS (τ' := [As.blk kb 51 [.slice none 0 0, .slice none 0 0, vw, vm, .slice none 0 0, .slice none 0 0]]) hw23⟩
theorem bookClose (kb : Nat) (vw vm : Value) (an cp : List (Value × List Int)) (hn : an.length < 400) (hc : cp.length = an.length) (hsame : ∀ i, i < an.length → (cp.getD i (.bool true, [])).2 = (an.getD i (.bool true, [])).2) (hU : ∀ i, i < an.length → U (an.getD i (.bool true, [])).2) (hL : ∀ i, i < an.length → (an.getD i (.bool true, [])).2.length ≤ 1099511627776) (w : World) (hS : Sep w.heap.size (fps (book kb vw vm an cp)) w (book kb vw vm an cp)) :
    CallsV P 28 [.pointer (some ⟨kb, 0, none⟩)] w fun r w' => r = .bool true ∧ Trans w w' (book kb vw vm an cp) [] := by
  refine enterW Try.func28 rfl Try.ntmps28 rfl ?_
  have hw0 := St.startS hS
  have hw0 : St w w.heap.size (fps (book kb vw vm an cp)) [As.blk kb 51 [.slice none 0 0, .slice none 0 0, vw, vm, .slice none 0 0, .slice none 0 0], As.ro 25 vw (an.map (·.1)), As.ro 25 vm (cp.map (·.1)), As.bag 22 (an.map fun p => (p.1, ints .u64 p.2)), As.bag 22 (cp.map fun p => (p.1, ints .u64 p.2))] w := hw0
  refine c_seq ?_
  refine c_region ?_
  refine l_assign rfl rfl rfl ?_
  refine l_nil ?_
  refine e_then ?_
  refine c_keep [0] (.cons rfl .nil) ?_
  refine c_seq ?_
  refine c_region ?_
  refine l_move rfl rfl rfl ?_
  refine l_call rfl rfl Try.func58 rfl rfl (.cons rfl .nil) (bookLook kb vw vm an cp hn hc hsame hU hL w (St.rows (τ := (book kb vw vm an cp)) (σ := []) hw0)) ?_
  rintro _ w1 ⟨rfl, hX⟩
  have hw1 : St w w.heap.size (fps (book kb vw vm an cp)) [As.blk kb 51 [.slice none 0 0, .slice none 0 0, vw, vm, .slice none 0 0, .slice none 0 0], As.ro 25 vw (an.map (·.1)), As.ro 25 vm (cp.map (·.1)), As.bag 22 (an.map fun p => (p.1, ints .u64 p.2)), As.bag 22 (cp.map fun p => (p.1, ints .u64 p.2))] w1 := hX _ _ _ [] hw0
  try clear hX hw0
  refine l_turn (s := 4) (v' := .bool true) rfl (by rfl) ?_
  refine l_move rfl rfl rfl ?_
  refine l_move rfl rfl rfl ?_
  refine l_call rfl rfl Try.func59 rfl rfl (.cons rfl .nil) (closeB kb vw vm w1 (St.rows (τ := [As.blk kb 51 [.slice none 0 0, .slice none 0 0, vw, vm, .slice none 0 0, .slice none 0 0]]) hw1)) ?_
  rintro _ w2 ⟨rfl, hX⟩
  have hw2 : St w w.heap.size (fps (book kb vw vm an cp)) [As.blk kb 51 [.slice none 0 0, .slice none 0 0, vw, vm, .slice none 0 0, .slice none 0 0], As.ro 25 vw (an.map (·.1)), As.ro 25 vm (cp.map (·.1)), As.bag 22 (an.map fun p => (p.1, ints .u64 p.2)), As.bag 22 (cp.map fun p => (p.1, ints .u64 p.2))] w2 := hX _ _ _ _ hw1
  try clear hX hw1
  refine l_turn (s := 7) (v' := .bool true) rfl (by rfl) ?_
  refine l_pick_t rfl rfl rfl rfl ?_
  refine l_move rfl rfl rfl ?_
  refine l_move rfl rfl rfl ?_
  refine l_call rfl rfl Try.func60 rfl rfl (.cons rfl .nil) (closeW kb vw vm an cp (by omega) hL w2 (St.rows (τ := (book kb vw vm an cp)) (σ := []) hw2)) ?_
  rintro _ w3 ⟨rfl, hX⟩
  have hw3 : St w w.heap.size (fps (book kb vw vm an cp)) [As.blk kb 51 [.slice none 0 0, .slice none 0 0, vw, vm, .slice none 0 0, .slice none 0 0]] w3 := hX _ _ _ [] hw2
  try clear hX hw2
  refine l_turn (s := 11) (v' := .bool true) rfl (by rfl) ?_
  refine l_pick_t rfl rfl rfl rfl ?_
  refine l_move rfl rfl rfl ?_
  refine l_move rfl rfl rfl ?_
  refine l_call rfl rfl Try.func61 rfl rfl (.cons rfl .nil) (closeI kb vw vm w3 (St.rows (τ := [As.blk kb 51 [.slice none 0 0, .slice none 0 0, vw, vm, .slice none 0 0, .slice none 0 0]]) (σ := []) hw3)) ?_
  rintro _ w4 ⟨rfl, hX⟩
  have hw4 : St w w.heap.size (fps (book kb vw vm an cp)) [As.blk kb 51 [.slice none 0 0, .slice none 0 0, vw, vm, .slice none 0 0, .slice none 0 0]] w4 := hX _ _ _ [] hw3
  try clear hX hw3
  refine l_turn (s := 15) (v' := .bool true) rfl (by rfl) ?_
  refine l_pick_t rfl rfl rfl rfl ?_
  refine l_assign rfl rfl rfl ?_
  refine l_nil ?_
  refine e_then ?_
  refine c_keep [2] (.cons rfl .nil) ?_
  refine c_ret ?_
  refine e_done1 Try.results28 rfl ?_
  refine ⟨_, rfl, ?_⟩
  have hw5 := St.del .head hw4
  try clear hw4
  exact ⟨rfl, St.transS (τ' := []) hw5⟩
end Go.Proofs.Ytnddfmjmeghkjaa.W
