/- walks of mintagekeep.Book -/
import Derived.Test.YtnddfmjmeghkjaaLk
set_option linter.unusedVariables false
set_option linter.unusedSimpArgs false
set_option maxRecDepth 10000
namespace Go.Proofs.Ytnddfmjmeghkjaa.W
open Go.Vc Go.RowKit

/-- a book of answers: its block, the rows of their values and of their copies' values, the answers, the copies -/
def book (kb : Nat) (vw vm : Value) (an cp : List (Value × List Int)) : List As :=
  [As.blk kb 51 [.slice none 0 0, .slice none 0 0, vw, vm, .slice none 0 0, .slice none 0 0], As.ro 25 vw (an.map (·.1)), As.ro 25 vm (cp.map (·.1)), As.bag 22 (an.map fun p => (p.1, ints .u64 p.2)), As.bag 22 (cp.map fun p => (p.1, ints .u64 p.2))]

theorem bookWords (kb : Nat) (vw vm v : Value) (an cp : List (Value × List Int)) (l : List Int) (hU : U l) (hL : l.length ≤ 1099511627776) (hn : an.length < 400) (hc : cp.length < 400) (w : World) (hS : Sep w.heap.size (fps (book kb vw vm an cp ++ [As.ri 22 .u64 v l])) w (book kb vw vm an cp ++ [As.ri 22 .u64 v l])) :
    CallsV P 36 [.pointer (some ⟨kb, 0, none⟩), v] w fun r w' => ∃ vw' vm' m, r = .tuple #[] ∧ Trans w w' (book kb vw vm an cp ++ [As.ri 22 .u64 v l]) (book kb vw' vm' (an ++ [(v, l)]) (cp ++ [(m, l)])) := by
  refine enterW Try.func36 rfl Try.ntmps36 rfl ?_
  have hw0 := St.startS hS
  have hw0 : St w w.heap.size (fps (book kb vw vm an cp ++ [As.ri 22 .u64 v l])) [As.blk kb 51 [.slice none 0 0, .slice none 0 0, vw, vm, .slice none 0 0, .slice none 0 0], As.ro 25 vw (an.map (·.1)), As.ro 25 vm (cp.map (·.1)), As.bag 22 (an.map fun p => (p.1, ints .u64 p.2)), As.bag 22 (cp.map fun p => (p.1, ints .u64 p.2)), As.ri 22 .u64 v l] w := hw0
  have hv1 : v.oneCell' = true := by
    obtain ⟨A, c, e, _⟩ := hw0.io mem5
    rw [e]
    rfl
  refine c_seq ?_
  refine c_region ?_
  refine l_move rfl rfl rfl ?_
  refine l_nilCheck rfl rfl rfl ?_
  refine l_field fo51_2 rfl rfl rfl ?_
  refine l_load_blk hw0 mem0 rfl rfl Try.underlying48 rfl rfl rfl ?_
  refine v_len rfl rfl Try.underlying48 rfl (by first | exact hw0.ibl mem0 | exact hw0.io mem1 | exact hw0.io mem2 | exact hw0.io mem5 | assumption) ?_
  refine l_lss rfl rfl rfl rfl ?_
  refine l_nil ?_
  refine e_then ?_
  refine c_keep [0, 1, 10] (.cons rfl (.cons rfl (.cons rfl .nil))) ?_
  first | refine c_cond rfl (fun hc0 => ?_) (fun hc0 => ?_) | refine c_condb rfl (fun hc0 => ?_) (fun hc0 => ?_)
  · skip
    refine c_seq ?_
    refine c_region ?_
    refine l_assign rfl rfl rfl ?_
    refine l_nil ?_
    refine e_then ?_
    refine c_keep [0, 1, 4] (.cons rfl (.cons rfl (.cons rfl .nil))) ?_
    refine c_seq ?_
    refine c_region ?_
    refine l_move rfl rfl rfl ?_
    refine l_move rfl rfl rfl ?_
    refine l_nilCheck rfl rfl rfl ?_
    refine l_field fo51_2 rfl rfl rfl ?_
    refine l_load_blk hw0 mem0 rfl rfl Try.underlying48 rfl rfl rfl ?_
    refine l_move rfl rfl rfl ?_
    have hw1 := St.front1 hw0
    try clear hw0
    refine v_lit hw1 rfl rfl Try.underlying48 ti25 rfl (.cons rfl (by first | rfl | assumption) .nil) rfl rfl rfl (fun b2_6 w2 hw2 => ?_)
    try clear hw1
    refine v_push hw2 rfl rfl Try.underlying48 ti25 rfl rfl rfl rfl (by first | (simp [Value.oneCell']; done) | (intro u hu; rw [List.mem_singleton.1 hu]; assumption)) (by first | (simp; done) | (simp; omega)) (by first | (simp; done) | (simp; omega)) (fun v2_7 w3 hw3 => ?_)
    try clear hw2
    have h27 : v2_7.oneCell' = true := by
      obtain ⟨A, c, e, _⟩ := hw3.io mem0
      rw [e]
      rfl
    refine l_nilCheck rfl rfl rfl ?_
    refine l_field fo51_2 rfl rfl rfl ?_
    refine l_store_blk hw3 (.tail .head) (by repeat (first | exact .zero | apply SetAt.succ)) rfl tz48 rfl rfl (by first | rfl | assumption) (fun w4 hw4 => ?_)
    try clear hw3
    refine l_nil ?_
    refine e_then ?_
    refine c_keep [0, 1, 4] (.cons rfl (.cons rfl (.cons rfl .nil))) ?_
    have hw5 := hw4.drewn
    try clear hw4
    refine c_any (n := 13) [false, false, false, false, false, false, false, false, false, false, false, false, false] (fun wS => True) (by kernel_rfl) rfl rfl ?_
    apply a_take (L' := [true, false, false, false, false, false, false, false, false, false, false, false, false]) 0 rfl (by kernel_rfl) (by kernel_rfl) (by kernel_rfl) rfl rfl rfl rfl rfl (trivial)
    · intro wS sS
      refine l_move rfl rfl rfl ?_
      refine l_nil ?_
      exact e_got rfl
    apply a_take (L' := [true, true, false, false, false, false, false, false, false, false, false, false, false]) 1 rfl (by kernel_rfl) (by kernel_rfl) (by kernel_rfl) rfl rfl rfl rfl rfl (trivial)
    · intro wS sS
      refine l_move rfl rfl rfl ?_
      refine l_nil ?_
      exact e_got rfl
    refine a_nil (L' := [true, true, true, false, false, false, false, false, false, false, false, false, false]) 2 rfl (by kernel_rfl) (by kernel_rfl) (by kernel_rfl) rfl rfl rfl (trivial) rfl ?_
    apply a_take (L' := [true, true, true, true, false, false, false, false, false, false, false, false, false]) 3 rfl (by kernel_rfl) (by kernel_rfl) (by kernel_rfl) rfl rfl rfl rfl rfl (trivial)
    · intro wS sS
      refine l_field fo51_3 rfl rfl rfl ?_
      refine l_nil ?_
      exact e_got rfl
    apply a_take (L' := [true, true, true, true, false, true, false, false, false, false, false, false, false]) 5 rfl (by kernel_rfl) (by kernel_rfl) (by kernel_rfl) rfl rfl rfl rfl rfl (trivial)
    · intro wS sS
      refine l_move rfl rfl rfl ?_
      refine l_nil ?_
      exact e_got rfl
    apply a_take (L' := [true, true, true, true, false, true, true, false, false, false, false, false, false]) 6 rfl (by kernel_rfl) (by kernel_rfl) (by kernel_rfl) rfl rfl rfl rfl rfl (trivial)
    · intro wS sS
      refine l_move rfl rfl rfl ?_
      refine l_nil ?_
      exact e_got rfl
    refine a_two (L' := [true, true, true, true, true, true, true, false, false, false, false, false, false]) (L'' := [true, true, true, true, false, true, true, true, false, false, false, false, false]) 4 7 (by kernel_rfl) rfl rfl rfl rfl ?_ ?_
    · skip
      refine l_load_blk hw5 mem1 rfl rfl Try.underlying48 rfl rfl rfl ?_
      refine l_nil ?_
      refine e_any (trivial) ?_
      refine a_one (L' := [true, true, true, true, true, true, true, true, false, false, false, false, false]) 7 (by kernel_rfl) rfl rfl ?_
      refine v_append_nil hw5 rfl rfl Try.underlying25 ti22 rfl rfl rfl (by first | exact hw5.io mem0 | exact hw5.ibl mem1 | exact hw5.io mem2 | exact hw5.io mem5 | assumption) (by first | exact ints_one _ _ | exact bys_one _ | simp [Value.oneCell']) (by first | (simp; done) | (simp; omega)) (by first | (simp; done) | (simp; omega)) (fun v3_7 w6 hw6 => ?_)
      try clear hw5
      have h37 : v3_7.oneCell' = true := by
        obtain ⟨A, c, e, _⟩ := hw6.io mem0
        rw [e]
        rfl
      refine l_nil ?_
      refine e_any (trivial) ?_
      refine a_one (L' := [true, true, true, true, true, true, true, true, true, false, false, false, false]) 8 (by kernel_rfl) rfl rfl ?_
      have hw7 := St.front3 hw6
      try clear hw6
      refine v_lit hw7 rfl rfl Try.underlying48 ti25 rfl (.cons rfl (by first | rfl | assumption) .nil) rfl rfl rfl (fun b3_8 w8 hw8 => ?_)
      try clear hw7
      refine l_nil ?_
      refine e_any (trivial) ?_
      refine a_one (L' := [true, true, true, true, true, true, true, true, true, true, false, false, false]) 9 (by kernel_rfl) rfl rfl ?_
      refine v_push hw8 rfl rfl Try.underlying48 ti25 rfl rfl rfl rfl (by first | (simp [Value.oneCell']; done) | (intro u hu; rw [List.mem_singleton.1 hu]; assumption)) (by first | (simp; done) | (simp; omega)) (by first | (simp; done) | (simp; omega)) (fun v3_9 w9 hw9 => ?_)
      try clear hw8
      have h39 : v3_9.oneCell' = true := by
        obtain ⟨A, c, e, _⟩ := hw9.io mem0
        rw [e]
        rfl
      refine l_nil ?_
      refine e_any (trivial) ?_
      refine a_nil (L' := [true, true, true, true, true, true, true, true, true, true, true, false, false]) 10 rfl (by kernel_rfl) (by kernel_rfl) (by kernel_rfl) rfl rfl rfl (trivial) rfl ?_
      apply a_take (L' := [true, true, true, true, true, true, true, true, true, true, true, true, false]) 11 rfl (by kernel_rfl) (by kernel_rfl) (by kernel_rfl) rfl rfl rfl rfl rfl (trivial)
      · intro wS sS
        refine l_field fo51_3 rfl rfl rfl ?_
        refine l_nil ?_
        exact e_got rfl
      refine a_one (L' := [true, true, true, true, true, true, true, true, true, true, true, true, true]) 12 (by kernel_rfl) rfl rfl ?_
      refine l_store_blk hw9 (.tail (.tail (.tail .head))) (by repeat (first | exact .zero | apply SetAt.succ)) rfl tz48 rfl rfl (by first | rfl | assumption) (fun w10 hw10 => ?_)
      try clear hw9
      refine l_nil ?_
      refine e_any (trivial) ?_
      refine a_done (by kernel_rfl) ?_
      refine e_done0 Try.results36 ?_
      refine ⟨_, rfl, ?_⟩
      have hw11 := St.front2 hw10
      try clear hw10
      have hw12 := St.front3 hw11
      try clear hw11
      have hw13 := St.front5 hw12
      try clear hw12
      have hw14 := St.front4 hw13
      try clear hw13
      have hw15 := St.front5 hw14
      try clear hw14
      have hw16 := St.front6 hw15
      try clear hw15
      have h1 := bag_in (a := an.map fun p => (p.1, ints .u64 p.2)) (b := []) (hw16.cast (by rw [List.append_nil]))
      have h2 := h1.front1.front2.front1
      have h3 := bag_in (a := cp.map fun p => (p.1, ints .u64 p.2)) (b := []) (h2.cast (by rw [List.append_nil]))
      have h4 := h3.front1.front4.front4.front4
      exact ⟨_, _, v3_7, rfl, (h4.cast (show _ = book kb v2_7 v3_9 (an ++ [(v, l)]) (cp ++ [(v3_7, l)]) from by unfold book; simp only [List.map_append, List.map_cons, List.map_nil])).transS⟩
    · skip
      refine v_append_nil hw5 rfl rfl Try.underlying25 ti22 rfl rfl rfl (by first | exact hw5.io mem0 | exact hw5.ibl mem1 | exact hw5.io mem2 | exact hw5.io mem5 | assumption) (by first | exact ints_one _ _ | exact bys_one _ | simp [Value.oneCell']) (by first | (simp; done) | (simp; omega)) (by first | (simp; done) | (simp; omega)) (fun v3_7 w17 hw17 => ?_)
      try clear hw5
      have h37 : v3_7.oneCell' = true := by
        obtain ⟨A, c, e, _⟩ := hw17.io mem0
        rw [e]
        rfl
      refine l_nil ?_
      refine e_any (trivial) ?_
      refine a_two (L' := [true, true, true, true, true, true, true, true, false, false, false, false, false]) (L'' := [true, true, true, true, false, true, true, true, true, false, false, false, false]) 4 8 (by kernel_rfl) rfl rfl rfl rfl ?_ ?_
      · skip
        refine l_load_blk hw17 mem2 rfl rfl Try.underlying48 rfl rfl rfl ?_
        refine l_nil ?_
        refine e_any (trivial) ?_
        refine a_one (L' := [true, true, true, true, true, true, true, true, true, false, false, false, false]) 8 (by kernel_rfl) rfl rfl ?_
        have hw18 := St.front3 hw17
        try clear hw17
        refine v_lit hw18 rfl rfl Try.underlying48 ti25 rfl (.cons rfl (by first | rfl | assumption) .nil) rfl rfl rfl (fun b3_8 w19 hw19 => ?_)
        try clear hw18
        refine l_nil ?_
        refine e_any (trivial) ?_
        refine a_one (L' := [true, true, true, true, true, true, true, true, true, true, false, false, false]) 9 (by kernel_rfl) rfl rfl ?_
        refine v_push hw19 rfl rfl Try.underlying48 ti25 rfl rfl rfl rfl (by first | (simp [Value.oneCell']; done) | (intro u hu; rw [List.mem_singleton.1 hu]; assumption)) (by first | (simp; done) | (simp; omega)) (by first | (simp; done) | (simp; omega)) (fun v3_9 w20 hw20 => ?_)
        try clear hw19
        have h39 : v3_9.oneCell' = true := by
          obtain ⟨A, c, e, _⟩ := hw20.io mem0
          rw [e]
          rfl
        refine l_nil ?_
        refine e_any (trivial) ?_
        refine a_nil (L' := [true, true, true, true, true, true, true, true, true, true, true, false, false]) 10 rfl (by kernel_rfl) (by kernel_rfl) (by kernel_rfl) rfl rfl rfl (trivial) rfl ?_
        apply a_take (L' := [true, true, true, true, true, true, true, true, true, true, true, true, false]) 11 rfl (by kernel_rfl) (by kernel_rfl) (by kernel_rfl) rfl rfl rfl rfl rfl (trivial)
        · intro wS sS
          refine l_field fo51_3 rfl rfl rfl ?_
          refine l_nil ?_
          exact e_got rfl
        refine a_one (L' := [true, true, true, true, true, true, true, true, true, true, true, true, true]) 12 (by kernel_rfl) rfl rfl ?_
        refine l_store_blk hw20 (.tail (.tail (.tail .head))) (by repeat (first | exact .zero | apply SetAt.succ)) rfl tz48 rfl rfl (by first | rfl | assumption) (fun w21 hw21 => ?_)
        try clear hw20
        refine l_nil ?_
        refine e_any (trivial) ?_
        refine a_done (by kernel_rfl) ?_
        refine e_done0 Try.results36 ?_
        refine ⟨_, rfl, ?_⟩
        have hw22 := St.front2 hw21
        try clear hw21
        have hw23 := St.front3 hw22
        try clear hw22
        have hw24 := St.front5 hw23
        try clear hw23
        have hw25 := St.front4 hw24
        try clear hw24
        have hw26 := St.front5 hw25
        try clear hw25
        have hw27 := St.front6 hw26
        try clear hw26
        have h1 := bag_in (a := an.map fun p => (p.1, ints .u64 p.2)) (b := []) (hw27.cast (by rw [List.append_nil]))
        have h2 := h1.front1.front2.front1
        have h3 := bag_in (a := cp.map fun p => (p.1, ints .u64 p.2)) (b := []) (h2.cast (by rw [List.append_nil]))
        have h4 := h3.front1.front4.front4.front4
        exact ⟨_, _, v3_7, rfl, (h4.cast (show _ = book kb v2_7 v3_9 (an ++ [(v, l)]) (cp ++ [(v3_7, l)]) from by unfold book; simp only [List.map_append, List.map_cons, List.map_nil])).transS⟩
      · skip
        have hw28 := St.front3 hw17
        try clear hw17
        refine v_lit hw28 rfl rfl Try.underlying48 ti25 rfl (.cons rfl (by first | rfl | assumption) .nil) rfl rfl rfl (fun b3_8 w29 hw29 => ?_)
        try clear hw28
        refine l_nil ?_
        refine e_any (trivial) ?_
        refine a_one (L' := [true, true, true, true, true, true, true, true, true, false, false, false, false]) 4 (by kernel_rfl) rfl rfl ?_
        refine l_load_blk hw29 mem4 rfl rfl Try.underlying48 rfl rfl rfl ?_
        refine l_nil ?_
        refine e_any (trivial) ?_
        refine a_one (L' := [true, true, true, true, true, true, true, true, true, true, false, false, false]) 9 (by kernel_rfl) rfl rfl ?_
        refine v_push hw29 rfl rfl Try.underlying48 ti25 rfl rfl rfl rfl (by first | (simp [Value.oneCell']; done) | (intro u hu; rw [List.mem_singleton.1 hu]; assumption)) (by first | (simp; done) | (simp; omega)) (by first | (simp; done) | (simp; omega)) (fun v3_9 w30 hw30 => ?_)
        try clear hw29
        have h39 : v3_9.oneCell' = true := by
          obtain ⟨A, c, e, _⟩ := hw30.io mem0
          rw [e]
          rfl
        refine l_nil ?_
        refine e_any (trivial) ?_
        refine a_nil (L' := [true, true, true, true, true, true, true, true, true, true, true, false, false]) 10 rfl (by kernel_rfl) (by kernel_rfl) (by kernel_rfl) rfl rfl rfl (trivial) rfl ?_
        apply a_take (L' := [true, true, true, true, true, true, true, true, true, true, true, true, false]) 11 rfl (by kernel_rfl) (by kernel_rfl) (by kernel_rfl) rfl rfl rfl rfl rfl (trivial)
        · intro wS sS
          refine l_field fo51_3 rfl rfl rfl ?_
          refine l_nil ?_
          exact e_got rfl
        refine a_one (L' := [true, true, true, true, true, true, true, true, true, true, true, true, true]) 12 (by kernel_rfl) rfl rfl ?_
        refine l_store_blk hw30 (.tail (.tail (.tail .head))) (by repeat (first | exact .zero | apply SetAt.succ)) rfl tz48 rfl rfl (by first | rfl | assumption) (fun w31 hw31 => ?_)
        try clear hw30
        refine l_nil ?_
        refine e_any (trivial) ?_
        refine a_done (by kernel_rfl) ?_
        refine e_done0 Try.results36 ?_
        refine ⟨_, rfl, ?_⟩
        have hw32 := St.front2 hw31
        try clear hw31
        have hw33 := St.front3 hw32
        try clear hw32
        have hw34 := St.front5 hw33
        try clear hw33
        have hw35 := St.front4 hw34
        try clear hw34
        have hw36 := St.front5 hw35
        try clear hw35
        have hw37 := St.front6 hw36
        try clear hw36
        have h1 := bag_in (a := an.map fun p => (p.1, ints .u64 p.2)) (b := []) (hw37.cast (by rw [List.append_nil]))
        have h2 := h1.front1.front2.front1
        have h3 := bag_in (a := cp.map fun p => (p.1, ints .u64 p.2)) (b := []) (h2.cast (by rw [List.append_nil]))
        have h4 := h3.front1.front4.front4.front4
        exact ⟨_, _, v3_7, rfl, (h4.cast (show _ = book kb v2_7 v3_9 (an ++ [(v, l)]) (cp ++ [(v3_7, l)]) from by unfold book; simp only [List.map_append, List.map_cons, List.map_nil])).transS⟩
  · skip
    exact absurd (show ((an.map (·.1)).length : Int) < 400 by simp; omega) hc0

theorem map_at {an : List (Value × List Int)} {i : Nat} (h : i < an.length) : (an.map (·.1))[((i : Nat) : Int).toNat]? = some (an.getD i (.bool true, [])).1 := by
  rw [Int.toNat_natCast, List.getElem?_map]
  simp [List.getD, h]
theorem bag_at {an : List (Value × List Int)} {i : Nat} (h : i < an.length) : ((an.getD i (.bool true, [])).1, ints .u64 (an.getD i (.bool true, [])).2) ∈ an.map fun p => (p.1, ints .u64 p.2) := by
  have e : an.getD i (.bool true, []) = an[i] := by simp [List.getD, h]
  rw [e]
  exact List.mem_map.2 ⟨an[i], List.getElem_mem h, rfl⟩

theorem bookLook (kb : Nat) (vw vm : Value) (an cp : List (Value × List Int)) (hn : an.length < 400) (hc : cp.length = an.length) (hsame : ∀ i, i < an.length → (cp.getD i (.bool true, [])).2 = (an.getD i (.bool true, [])).2) (hU : ∀ i, i < an.length → U (an.getD i (.bool true, [])).2) (hL : ∀ i, i < an.length → (an.getD i (.bool true, [])).2.length ≤ 1099511627776) (w : World) (hS : Sep w.heap.size (fps (book kb vw vm an cp)) w (book kb vw vm an cp)) :
    CallsV P 58 [.pointer (some ⟨kb, 0, none⟩)] w fun r w' => r = .bool true ∧ Trans w w' (book kb vw vm an cp) (book kb vw vm an cp) := by
  refine enterW Try.func58 rfl Try.ntmps58 rfl ?_
  have hw0 := St.startS hS
  have hw0 : St w w.heap.size (fps (book kb vw vm an cp)) [As.blk kb 51 [.slice none 0 0, .slice none 0 0, vw, vm, .slice none 0 0, .slice none 0 0], As.ro 25 vw (an.map (·.1)), As.ro 25 vm (cp.map (·.1)), As.bag 22 (an.map fun p => (p.1, ints .u64 p.2)), As.bag 22 (cp.map fun p => (p.1, ints .u64 p.2))] w := hw0
  have hnil := IV.nil w
  refine c_seq ?_
  refine c_region ?_
  refine l_assign rfl rfl rfl ?_
  refine l_nil ?_
  refine e_then ?_
  refine c_keep [0] (.cons rfl .nil) ?_
  refine c_seq ?_
  refine c_seq ?_
  refine c_region ?_
  refine l_assign rfl rfl rfl ?_
  refine l_nil ?_
  refine e_then ?_
  refine c_block ?_
  refine c_loopk (ι := Unit) (fun (z : Unit) => 0) (fun (z : Unit) (w' : World) => St w w.heap.size (fps (book kb vw vm an cp)) ([As.blk kb 51 [.slice none 0 0, .slice none 0 0, vw, vm, .slice none 0 0, .slice none 0 0], As.ro 25 vw (an.map (·.1)), As.ro 25 vm (cp.map (·.1)), As.bag 22 (an.map fun p => (p.1, ints .u64 p.2)), As.bag 22 (cp.map fun p => (p.1, ints .u64 p.2))]) w' ∧ True) (fun (z : Unit) => [(3, .int .i64 0)]) [0] (()) ?_ (.cons rfl .nil) ?_ ?_
  · exact ⟨hw0, trivial⟩
  · exact (.cons rfl (by first | rfl | (refine congrArg (Value.int _) ?_; omega)) .nil)
  rintro z w1 ⟨hw1, _⟩
  show RunC P _ _ _ (_ :: _) _
  refine c_seq ?_
  refine c_seq ?_
  refine c_region ?_
  refine l_move rfl rfl rfl ?_
  refine l_move rfl rfl rfl ?_
  refine l_nilCheck rfl rfl rfl ?_
  refine l_field fo51_0 rfl rfl rfl ?_
  refine l_load_blk hw1 mem0 rfl rfl Try.underlying47 rfl rfl rfl ?_
  refine v_len rfl rfl Try.underlying47 rfl (by first | exact hw1.ibl mem0 | exact hw1.io mem1 | exact hw1.io mem2 | assumption) ?_
  refine l_lss rfl rfl rfl rfl ?_
  refine l_nil ?_
  refine e_then ?_
  refine c_keep [0, 3, 12] (.cons rfl (.cons rfl (.cons rfl .nil))) ?_
  first | refine c_cond rfl (fun hc0 => ?_) (fun hc0 => ?_) | refine c_condb rfl (fun hc0 => ?_) (fun hc0 => ?_)
  · skip
    exact absurd hc0 (by simp)
  · skip
    refine c_exit ?_
    refine e_then_exit ?_
    refine e_then_exit ?_
    refine e_blk_exit ?_
    refine e_then ?_
    refine c_keep [0] (.cons rfl .nil) ?_
    refine c_seq ?_
    refine c_seq ?_
    refine c_region ?_
    refine l_assign rfl rfl rfl ?_
    refine l_nil ?_
    refine e_then ?_
    refine c_block ?_
    refine c_loopk (ι := Nat) (fun (i : Nat) => an.length - i) (fun (i : Nat) (w' : World) => St w w.heap.size (fps (book kb vw vm an cp)) ([As.blk kb 51 [.slice none 0 0, .slice none 0 0, vw, vm, .slice none 0 0, .slice none 0 0], As.ro 25 vw (an.map (·.1)), As.ro 25 vm (cp.map (·.1)), As.bag 22 (an.map fun p => (p.1, ints .u64 p.2)), As.bag 22 (cp.map fun p => (p.1, ints .u64 p.2))]) w' ∧ i ≤ an.length) (fun (i : Nat) => [(4, .int .i64 (i : Int))]) [0] (0) ?_ (.cons rfl .nil) ?_ ?_
    · exact ⟨hw1, by omega⟩
    · exact (.cons rfl (by first | rfl | (refine congrArg (Value.int _) ?_; omega)) .nil)
    rintro i w2 ⟨hw2, hi⟩
    show RunC P _ _ _ (_ :: _) _
    refine c_seq ?_
    refine c_seq ?_
    refine c_region ?_
    refine l_move rfl rfl rfl ?_
    refine l_move rfl rfl rfl ?_
    refine l_nilCheck rfl rfl rfl ?_
    refine l_field fo51_2 rfl rfl rfl ?_
    refine l_load_blk hw2 mem0 rfl rfl Try.underlying48 rfl rfl rfl ?_
    refine v_len rfl rfl Try.underlying48 rfl (by first | exact hw2.ibl mem0 | exact hw2.io mem1 | exact hw2.io mem2 | assumption) ?_
    refine l_lss rfl rfl rfl rfl ?_
    refine l_nil ?_
    refine e_then ?_
    refine c_keep [0, 4, 37] (.cons rfl (.cons rfl (.cons rfl .nil))) ?_
    first | refine c_cond rfl (fun hc1 => ?_) (fun hc1 => ?_) | refine c_condb rfl (fun hc1 => ?_) (fun hc1 => ?_)
    · skip
      refine c_skip ?_
      refine e_then ?_
      refine c_keep [0, 4] (.cons rfl (.cons rfl .nil)) ?_
      refine c_seq ?_
      refine c_block ?_
      refine c_seq ?_
      refine c_tail 14 (by kernel_rfl) (by kernel_rfl) ?_
      have hw3 := hw2.drewn
      try clear hw2
      have hi1 : i < an.length := by simp at hc1; omega
      refine l_move rfl rfl rfl ?_
      refine l_nilCheck rfl rfl rfl ?_
      refine l_field fo51_2 rfl rfl rfl ?_
      refine l_load_blk hw3 mem0 rfl rfl Try.underlying48 rfl rfl rfl ?_
      refine l_move rfl rfl rfl ?_
      refine v_get rfl rfl rfl rfl Try.underlying48 tz25 Try.underlying25 rfl rfl rfl (by first | exact hw3.ibl mem0 | exact hw3.io mem1 | exact hw3.io mem2 | assumption) (by first | omega | (simp; omega)) (map_at hi1) ?_ rfl
      refine l_move rfl rfl rfl ?_
      refine l_nilCheck rfl rfl rfl ?_
      refine l_field fo51_3 rfl rfl rfl ?_
      refine l_load_blk hw3 mem0 rfl rfl Try.underlying48 rfl rfl rfl ?_
      refine l_move rfl rfl rfl ?_
      refine v_get rfl rfl rfl rfl Try.underlying48 tz25 Try.underlying25 rfl rfl rfl (by first | exact hw3.ibl mem0 | exact hw3.io mem1 | exact hw3.io mem2 | assumption) (by first | omega | (simp; omega)) (map_at (show i < cp.length by omega)) ?_ rfl
      refine l_nil ?_
      refine e_tail ?_
      refine l_call rfl rfl Try.func13 rfl rfl (.cons rfl (.cons rfl .nil)) (wordsK _ _ (an.getD i (.bool true, [])).2 (cp.getD i (.bool true, [])).2 (hU i hi1) (by rw [hsame i hi1]; exact hU i hi1) (hL i hi1) (by rw [hsame i hi1]; exact hL i hi1) w2.drew (bag_iv hw3 mem3 (bag_at hi1)) (bag_iv hw3 mem4 (bag_at (show i < cp.length by omega)))) ?_
      rintro _ w4 ⟨rfl, hG⟩
      have hw4 := hG _ _ _ _ hw3
      try clear hG hw3
      simp only [List.cons_append, List.nil_append] at hw4
      refine l_turn (s := 54) (v' := .bool true) rfl (by rw [decide_eq_true (hsame i hi1).symm]) ?_
      first | refine l_notd rfl rfl rfl ?_ | refine l_not rfl rfl rfl ?_
      refine l_turn (s := 55) (v' := .bool false) rfl (by rfl) ?_
      refine l_nil ?_
      refine e_then ?_
      refine c_keep [0, 4, 55] (.cons rfl (.cons rfl (.cons rfl .nil))) ?_
      refine c_cond_f rfl rfl ?_
      refine c_skip ?_
      refine e_blk ?_
      refine e_then ?_
      refine c_keep [0, 4] (.cons rfl (.cons rfl .nil)) ?_
      refine c_region ?_
      skip
      refine l_move rfl rfl rfl ?_
      refine l_add rfl rfl rfl rfl (w_i64 (by omega)) ?_
      refine l_assign rfl rfl rfl ?_
      refine l_nil ?_
      refine e_againk (i := (i)) (i + 1) ?_ ?_ (.cons rfl .nil) ?_
      · first | omega | (simp; omega)
      · exact ⟨hw4, by omega⟩
      · exact (.cons rfl (by first | rfl | (refine congrArg (Value.int _) ?_; omega)) .nil)
    · skip
      refine c_exit ?_
      refine e_then_exit ?_
      refine e_then_exit ?_
      refine e_blk_exit ?_
      refine e_then ?_
      refine c_keep [0] (.cons rfl .nil) ?_
      refine c_seq ?_
      refine c_seq ?_
      refine c_region ?_
      refine l_assign rfl rfl rfl ?_
      refine l_nil ?_
      refine e_then ?_
      refine c_block ?_
      refine c_loopk (ι := Unit) (fun (z : Unit) => 0) (fun (z : Unit) (w' : World) => St w w.heap.size (fps (book kb vw vm an cp)) ([As.blk kb 51 [.slice none 0 0, .slice none 0 0, vw, vm, .slice none 0 0, .slice none 0 0], As.ro 25 vw (an.map (·.1)), As.ro 25 vm (cp.map (·.1)), As.bag 22 (an.map fun p => (p.1, ints .u64 p.2)), As.bag 22 (cp.map fun p => (p.1, ints .u64 p.2))]) w' ∧ True) (fun (z : Unit) => [(5, .int .i64 0)]) [0] (()) ?_ (.cons rfl .nil) ?_ ?_
      · exact ⟨hw2, trivial⟩
      · exact (.cons rfl (by first | rfl | (refine congrArg (Value.int _) ?_; omega)) .nil)
      rintro z w5 ⟨hw5, _⟩
      show RunC P _ _ _ (_ :: _) _
      refine c_seq ?_
      refine c_seq ?_
      refine c_region ?_
      refine l_move rfl rfl rfl ?_
      refine l_move rfl rfl rfl ?_
      refine l_nilCheck rfl rfl rfl ?_
      refine l_field fo51_4 rfl rfl rfl ?_
      refine l_load_blk hw5 mem0 rfl rfl Try.underlying49 rfl rfl rfl ?_
      refine v_len rfl rfl Try.underlying49 rfl (by first | exact hw5.ibl mem0 | exact hw5.io mem1 | exact hw5.io mem2 | assumption) ?_
      refine l_lss rfl rfl rfl rfl ?_
      refine l_nil ?_
      refine e_then ?_
      refine c_keep [0, 5, 62] (.cons rfl (.cons rfl (.cons rfl .nil))) ?_
      first | refine c_cond rfl (fun hc3 => ?_) (fun hc3 => ?_) | refine c_condb rfl (fun hc3 => ?_) (fun hc3 => ?_)
      · skip
        exact absurd hc3 (by simp)
      · skip
        refine c_exit ?_
        refine e_then_exit ?_
        refine e_then_exit ?_
        refine e_blk_exit ?_
        refine e_then ?_
        refine c_keep [] .nil ?_
        refine c_seq ?_
        refine c_region ?_
        refine l_assign rfl rfl rfl ?_
        refine l_nil ?_
        refine e_then ?_
        refine c_ret ?_
        refine e_done1 Try.results58 rfl ?_
        refine ⟨_, rfl, ?_⟩
        exact ⟨rfl, St.transS (τ' := (book kb vw vm an cp)) hw5⟩
theorem closeB (kb : Nat) (vw vm : Value) (w : World) (hS : Sep w.heap.size (fps [As.blk kb 51 [.slice none 0 0, .slice none 0 0, vw, vm, .slice none 0 0, .slice none 0 0]]) w [As.blk kb 51 [.slice none 0 0, .slice none 0 0, vw, vm, .slice none 0 0, .slice none 0 0]]) :
    CallsV P 59 [.pointer (some ⟨kb, 0, none⟩)] w fun r w' => r = .bool true ∧ Trans w w' [As.blk kb 51 [.slice none 0 0, .slice none 0 0, vw, vm, .slice none 0 0, .slice none 0 0]] [As.blk kb 51 [.slice none 0 0, .slice none 0 0, vw, vm, .slice none 0 0, .slice none 0 0]] := by
  refine enterW Try.func59 rfl Try.ntmps59 rfl ?_
  have hw0 := St.startS hS
  have hnil := IV.nil w
  refine c_seq ?_
  refine c_region ?_
  refine l_assign rfl rfl rfl ?_
  refine l_nil ?_
  refine e_then ?_
  refine c_keep [0] (.cons rfl .nil) ?_
  refine c_seq ?_
  refine c_seq ?_
  refine c_region ?_
  refine l_assign rfl rfl rfl ?_
  refine l_nil ?_
  refine e_then ?_
  refine c_block ?_
  refine c_loopk (ι := Unit) (fun (z : Unit) => 0) (fun (z : Unit) (w' : World) => St w w.heap.size (fps [As.blk kb 51 [.slice none 0 0, .slice none 0 0, vw, vm, .slice none 0 0, .slice none 0 0]]) ([As.blk kb 51 [.slice none 0 0, .slice none 0 0, vw, vm, .slice none 0 0, .slice none 0 0]]) w' ∧ True) (fun (z : Unit) => [(3, .int .i64 0)]) [0] (()) ?_ (.cons rfl .nil) ?_ ?_
  · exact ⟨hw0, trivial⟩
  · exact (.cons rfl (by first | rfl | (refine congrArg (Value.int _) ?_; omega)) .nil)
  rintro z w1 ⟨hw1, _⟩
  show RunC P _ _ _ (_ :: _) _
  refine c_seq ?_
  refine c_seq ?_
  refine c_region ?_
  refine l_move rfl rfl rfl ?_
  refine l_move rfl rfl rfl ?_
  refine l_nilCheck rfl rfl rfl ?_
  refine l_field fo51_0 rfl rfl rfl ?_
  refine l_load_blk hw1 mem0 rfl rfl Try.underlying47 rfl rfl rfl ?_
  refine v_len rfl rfl Try.underlying47 rfl (by first | exact hw1.ibl mem0 | assumption) ?_
  refine l_lss rfl rfl rfl rfl ?_
  refine l_nil ?_
  refine e_then ?_
  refine c_keep [0, 3, 17] (.cons rfl (.cons rfl (.cons rfl .nil))) ?_
  first | refine c_cond rfl (fun hc0 => ?_) (fun hc0 => ?_) | refine c_condb rfl (fun hc0 => ?_) (fun hc0 => ?_)
  · skip
    exact absurd hc0 (by simp)
  · skip
    refine c_exit ?_
    refine e_then_exit ?_
    refine e_then_exit ?_
    refine e_blk_exit ?_
    refine e_then ?_
    refine c_keep [0] (.cons rfl .nil) ?_
    refine c_seq ?_
    refine c_region ?_
    refine l_assign rfl rfl rfl ?_
    refine l_nil ?_
    refine e_then ?_
    refine c_seq ?_
    refine c_seq ?_
    refine c_region ?_
    refine l_assign rfl rfl rfl ?_
    refine l_nil ?_
    refine e_then ?_
    refine c_block ?_
    refine c_loopk (ι := Unit) (fun (z : Unit) => 0) (fun (z : Unit) (w' : World) => St w w.heap.size (fps [As.blk kb 51 [.slice none 0 0, .slice none 0 0, vw, vm, .slice none 0 0, .slice none 0 0]]) ([As.blk kb 51 [.slice none 0 0, .slice none 0 0, vw, vm, .slice none 0 0, .slice none 0 0]]) w' ∧ True) (fun (z : Unit) => [(5, .slice none 0 0), (6, .int .i64 0)]) [0] (()) ?_ (.cons rfl .nil) ?_ ?_
    · exact ⟨hw1, trivial⟩
    · exact (.cons rfl (by first | rfl | (refine congrArg (Value.int _) ?_; omega)) (.cons rfl (by first | rfl | (refine congrArg (Value.int _) ?_; omega)) .nil))
    rintro z w2 ⟨hw2, _⟩
    show RunC P _ _ _ (_ :: _) _
    refine c_seq ?_
    refine c_seq ?_
    refine c_region ?_
    refine l_move rfl rfl rfl ?_
    refine l_move rfl rfl rfl ?_
    refine l_nilCheck rfl rfl rfl ?_
    refine l_field fo51_0 rfl rfl rfl ?_
    refine l_load_blk hw2 mem0 rfl rfl Try.underlying47 rfl rfl rfl ?_
    refine v_len rfl rfl Try.underlying47 rfl (by first | exact hw2.ibl mem0 | assumption) ?_
    refine l_lss rfl rfl rfl rfl ?_
    refine l_nil ?_
    refine e_then ?_
    refine c_keep [0, 5, 6, 49] (.cons rfl (.cons rfl (.cons rfl (.cons rfl .nil)))) ?_
    first | refine c_cond rfl (fun hc1 => ?_) (fun hc1 => ?_) | refine c_condb rfl (fun hc1 => ?_) (fun hc1 => ?_)
    · skip
      exact absurd hc1 (by simp)
    · skip
      refine c_exit ?_
      refine e_then_exit ?_
      refine e_then_exit ?_
      refine e_blk_exit ?_
      refine e_then ?_
      refine c_keep [0, 5] (.cons rfl (.cons rfl .nil)) ?_
      refine c_seq ?_
      refine c_seq ?_
      refine c_region ?_
      refine l_assign rfl rfl rfl ?_
      refine l_nil ?_
      refine e_then ?_
      refine c_block ?_
      refine c_loopk (ι := Unit) (fun (z : Unit) => 0) (fun (z : Unit) (w' : World) => St w w.heap.size (fps [As.blk kb 51 [.slice none 0 0, .slice none 0 0, vw, vm, .slice none 0 0, .slice none 0 0]]) ([As.blk kb 51 [.slice none 0 0, .slice none 0 0, vw, vm, .slice none 0 0, .slice none 0 0]]) w' ∧ True) (fun (z : Unit) => [(8, .int .i64 0)]) [0, 5] (()) ?_ (.cons rfl (.cons rfl .nil)) ?_ ?_
      · exact ⟨hw2, trivial⟩
      · exact (.cons rfl (by first | rfl | (refine congrArg (Value.int _) ?_; omega)) .nil)
      rintro z w3 ⟨hw3, _⟩
      show RunC P _ _ _ (_ :: _) _
      refine c_seq ?_
      refine c_seq ?_
      refine c_region ?_
      refine l_move rfl rfl rfl ?_
      refine l_move rfl rfl rfl ?_
      refine v_len rfl rfl Try.underlying47 rfl (by first | exact hw3.ibl mem0 | assumption) ?_
      refine l_lss rfl rfl rfl rfl ?_
      refine l_nil ?_
      refine e_then ?_
      refine c_keep [0, 5, 8, 76] (.cons rfl (.cons rfl (.cons rfl (.cons rfl .nil)))) ?_
      first | refine c_cond rfl (fun hc2 => ?_) (fun hc2 => ?_) | refine c_condb rfl (fun hc2 => ?_) (fun hc2 => ?_)
      · skip
        exact absurd hc2 (by simp)
      · skip
        refine c_exit ?_
        refine e_then_exit ?_
        refine e_then_exit ?_
        refine e_blk_exit ?_
        refine e_then ?_
        refine c_keep [] .nil ?_
        refine c_seq ?_
        refine c_region ?_
        refine l_assign rfl rfl rfl ?_
        refine l_nil ?_
        refine e_then ?_
        refine c_ret ?_
        refine e_done1 Try.results59 rfl ?_
        refine ⟨_, rfl, ?_⟩
        exact ⟨rfl, St.transS (τ' := [As.blk kb 51 [.slice none 0 0, .slice none 0 0, vw, vm, .slice none 0 0, .slice none 0 0]]) hw3⟩
theorem closeI (kb : Nat) (vw vm : Value) (w : World) (hS : Sep w.heap.size (fps [As.blk kb 51 [.slice none 0 0, .slice none 0 0, vw, vm, .slice none 0 0, .slice none 0 0]]) w [As.blk kb 51 [.slice none 0 0, .slice none 0 0, vw, vm, .slice none 0 0, .slice none 0 0]]) :
    CallsV P 61 [.pointer (some ⟨kb, 0, none⟩)] w fun r w' => r = .bool true ∧ Trans w w' [As.blk kb 51 [.slice none 0 0, .slice none 0 0, vw, vm, .slice none 0 0, .slice none 0 0]] [As.blk kb 51 [.slice none 0 0, .slice none 0 0, vw, vm, .slice none 0 0, .slice none 0 0]] := by
  refine enterW Try.func61 rfl Try.ntmps61 rfl ?_
  have hw0 := St.startS hS
  have hnil := IV.nil w
  refine c_seq ?_
  refine c_region ?_
  refine l_assign rfl rfl rfl ?_
  refine l_nil ?_
  refine e_then ?_
  refine c_keep [0] (.cons rfl .nil) ?_
  refine c_seq ?_
  refine c_seq ?_
  refine c_region ?_
  refine l_assign rfl rfl rfl ?_
  refine l_nil ?_
  refine e_then ?_
  refine c_block ?_
  refine c_loopk (ι := Unit) (fun (z : Unit) => 0) (fun (z : Unit) (w' : World) => St w w.heap.size (fps [As.blk kb 51 [.slice none 0 0, .slice none 0 0, vw, vm, .slice none 0 0, .slice none 0 0]]) ([As.blk kb 51 [.slice none 0 0, .slice none 0 0, vw, vm, .slice none 0 0, .slice none 0 0]]) w' ∧ True) (fun (z : Unit) => [(3, .int .i64 0)]) [0] (()) ?_ (.cons rfl .nil) ?_ ?_
  · exact ⟨hw0, trivial⟩
  · exact (.cons rfl (by first | rfl | (refine congrArg (Value.int _) ?_; omega)) .nil)
  rintro z w1 ⟨hw1, _⟩
  show RunC P _ _ _ (_ :: _) _
  refine c_seq ?_
  refine c_seq ?_
  refine c_region ?_
  refine l_move rfl rfl rfl ?_
  refine l_move rfl rfl rfl ?_
  refine l_nilCheck rfl rfl rfl ?_
  refine l_field fo51_4 rfl rfl rfl ?_
  refine l_load_blk hw1 mem0 rfl rfl Try.underlying49 rfl rfl rfl ?_
  refine v_len rfl rfl Try.underlying49 rfl (by first | exact hw1.ibl mem0 | assumption) ?_
  refine l_lss rfl rfl rfl rfl ?_
  refine l_nil ?_
  refine e_then ?_
  refine c_keep [0, 3, 17] (.cons rfl (.cons rfl (.cons rfl .nil))) ?_
  first | refine c_cond rfl (fun hc0 => ?_) (fun hc0 => ?_) | refine c_condb rfl (fun hc0 => ?_) (fun hc0 => ?_)
  · skip
    exact absurd hc0 (by simp)
  · skip
    refine c_exit ?_
    refine e_then_exit ?_
    refine e_then_exit ?_
    refine e_blk_exit ?_
    refine e_then ?_
    refine c_keep [0] (.cons rfl .nil) ?_
    refine c_seq ?_
    refine c_region ?_
    refine l_assign rfl rfl rfl ?_
    refine l_nil ?_
    refine e_then ?_
    refine c_seq ?_
    refine c_seq ?_
    refine c_region ?_
    refine l_assign rfl rfl rfl ?_
    refine l_nil ?_
    refine e_then ?_
    refine c_block ?_
    refine c_loopk (ι := Unit) (fun (z : Unit) => 0) (fun (z : Unit) (w' : World) => St w w.heap.size (fps [As.blk kb 51 [.slice none 0 0, .slice none 0 0, vw, vm, .slice none 0 0, .slice none 0 0]]) ([As.blk kb 51 [.slice none 0 0, .slice none 0 0, vw, vm, .slice none 0 0, .slice none 0 0]]) w' ∧ True) (fun (z : Unit) => [(5, .slice none 0 0), (6, .int .i64 0)]) [0] (()) ?_ (.cons rfl .nil) ?_ ?_
    · exact ⟨hw1, trivial⟩
    · exact (.cons rfl (by first | rfl | (refine congrArg (Value.int _) ?_; omega)) (.cons rfl (by first | rfl | (refine congrArg (Value.int _) ?_; omega)) .nil))
    rintro z w2 ⟨hw2, _⟩
    show RunC P _ _ _ (_ :: _) _
    refine c_seq ?_
    refine c_seq ?_
    refine c_region ?_
    refine l_move rfl rfl rfl ?_
    refine l_move rfl rfl rfl ?_
    refine l_nilCheck rfl rfl rfl ?_
    refine l_field fo51_4 rfl rfl rfl ?_
    refine l_load_blk hw2 mem0 rfl rfl Try.underlying49 rfl rfl rfl ?_
    refine v_len rfl rfl Try.underlying49 rfl (by first | exact hw2.ibl mem0 | assumption) ?_
    refine l_lss rfl rfl rfl rfl ?_
    refine l_nil ?_
    refine e_then ?_
    refine c_keep [0, 5, 6, 48] (.cons rfl (.cons rfl (.cons rfl (.cons rfl .nil)))) ?_
    first | refine c_cond rfl (fun hc1 => ?_) (fun hc1 => ?_) | refine c_condb rfl (fun hc1 => ?_) (fun hc1 => ?_)
    · skip
      exact absurd hc1 (by simp)
    · skip
      refine c_exit ?_
      refine e_then_exit ?_
      refine e_then_exit ?_
      refine e_blk_exit ?_
      refine e_then ?_
      refine c_keep [0, 5] (.cons rfl (.cons rfl .nil)) ?_
      refine c_seq ?_
      refine c_seq ?_
      refine c_region ?_
      refine l_assign rfl rfl rfl ?_
      refine l_nil ?_
      refine e_then ?_
      refine c_block ?_
      refine c_loopk (ι := Unit) (fun (z : Unit) => 0) (fun (z : Unit) (w' : World) => St w w.heap.size (fps [As.blk kb 51 [.slice none 0 0, .slice none 0 0, vw, vm, .slice none 0 0, .slice none 0 0]]) ([As.blk kb 51 [.slice none 0 0, .slice none 0 0, vw, vm, .slice none 0 0, .slice none 0 0]]) w' ∧ True) (fun (z : Unit) => [(8, .int .i64 0)]) [0, 5] (()) ?_ (.cons rfl (.cons rfl .nil)) ?_ ?_
      · exact ⟨hw2, trivial⟩
      · exact (.cons rfl (by first | rfl | (refine congrArg (Value.int _) ?_; omega)) .nil)
      rintro z w3 ⟨hw3, _⟩
      show RunC P _ _ _ (_ :: _) _
      refine c_seq ?_
      refine c_seq ?_
      refine c_region ?_
      refine l_move rfl rfl rfl ?_
      refine l_move rfl rfl rfl ?_
      refine v_len rfl rfl Try.underlying49 rfl (by first | exact hw3.ibl mem0 | assumption) ?_
      refine l_lss rfl rfl rfl rfl ?_
      refine l_nil ?_
      refine e_then ?_
      refine c_keep [0, 5, 8, 73] (.cons rfl (.cons rfl (.cons rfl (.cons rfl .nil)))) ?_
      first | refine c_cond rfl (fun hc2 => ?_) (fun hc2 => ?_) | refine c_condb rfl (fun hc2 => ?_) (fun hc2 => ?_)
      · skip
        exact absurd hc2 (by simp)
      · skip
        refine c_exit ?_
        refine e_then_exit ?_
        refine e_then_exit ?_
        refine e_blk_exit ?_
        refine e_then ?_
        refine c_keep [] .nil ?_
        refine c_seq ?_
        refine c_region ?_
        refine l_assign rfl rfl rfl ?_
        refine l_nil ?_
        refine e_then ?_
        refine c_ret ?_
        refine e_done1 Try.results61 rfl ?_
        refine ⟨_, rfl, ?_⟩
        exact ⟨rfl, St.transS (τ' := [As.blk kb 51 [.slice none 0 0, .slice none 0 0, vw, vm, .slice none 0 0, .slice none 0 0]]) hw3⟩
end Go.Proofs.Ytnddfmjmeghkjaa.W
