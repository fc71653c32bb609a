/- walks of mintagekeep.Book over bytes -/
import Derived.Test.YtojjlipcjdaejaaGreatDoorLp
import Derived.Test.YtojjlipcjdaejaaGreatDoorVf
set_option linter.unusedVariables false
set_option linter.unusedSimpArgs false
set_option maxRecDepth 10000
namespace Go.Proofs.YtojjlipcjdaejaaGreatDoor.W
open Go.Vc Go.RowKit
abbrev U8 (l : List Int) : Prop := Rg 0 255 l
def byN (t : List UInt8) : List Int := t.map fun b => (b.toNat : Int)
theorem byN_u (t : List UInt8) : U8 (byN t) := fun x hx => by
 obtain ⟨b, _, rfl⟩ := List.mem_map.1 hx
 have : b.toNat < 256 := b.toNat_lt
 omega
theorem byN_bys (t : List UInt8) : ints .u8 (byN t) = bys t := by simp [ints, byN, bys]
theorem ri_rb (E : TypeId) (v : Value) (t : List UInt8) : As.ri E .u8 v (byN t) = As.rb E v t := by show As.ro _ _ (ints .u8 (byN t)) = As.ro _ _ (bys t); rw [byN_bys]
theorem byN_len (t : List UInt8) : (byN t).length = t.length := by simp [byN]
theorem ints_bys {l : List Int} (h : U8 l) : ints .u8 l = bys (l.map fun x => UInt8.ofNat x.toNat) := by
 simp only [ints, bys, List.map_map]
 refine List.map_congr_left fun x hx => ?_
 have := h x hx
 show Value.int .u8 x = Value.int .u8 (((UInt8.ofNat x.toNat).toNat : Nat) : Int)
 rw [UInt8.toNat_ofNat']
 congr 1
 omega
def book (kb : Nat) (vw vm : Value) (an cp : List (Value × List Int)) : List As :=
 [As.blk kb 37 [vw, vm, .slice none 0 0, .slice none 0 0, .slice none 0 0, .slice none 0 0], As.ro 24 vw (an.map (·.1)), As.ro 24 vm (cp.map (·.1)), As.bag 5 (an.map fun p => (p.1, ints .u8 p.2)), As.bag 5 (cp.map fun p => (p.1, ints .u8 p.2))]
theorem twinK (v : Value) (l : List Int) (hL : l.length ≤ 1099511627776) (w : World) (hv : IV w v (ints .u8 l)) :
  CallsV P 32 [v] w fun r w' => ∃ m, r = m ∧ Grow w w' [As.ri 5 .u8 m l] := by
 refine enterW Tryz.func32 rfl Tryz.ntmps32 rfl ?_
 have hw0 := St.start w
 refine c_seq (c_region (l_assign rfl rfl rfl (l_nil (e_then ?_))))
 refine c_keep [0] (.cons rfl .nil) ?_
 refine c_seq (c_region (l_assign rfl rfl rfl (l_nil (e_then (c_seq ?_)))))
 refine c_region (l_move rfl rfl rfl (l_move rfl rfl rfl ?_))
 refine v_append_nil hw0 rfl rfl Tryz.underlying24 ti5 rfl rfl rfl (by first | exact hw0.iarg hv | assumption) (by first | exact ints_one _ _ | exact bys_one _ | simp [Value.oneCell']) (by first | (simp; done) | (simp; omega)) (by first | (simp; done) | (simp; omega)) (fun v2_2 w1 hw1 => ?_)
 try clear hw0
 refine l_assign rfl rfl rfl (l_nil (e_then ?_))
 refine c_keep [2] (.cons rfl .nil) ?_
 refine c_ret ?_
 refine e_done1 Tryz.results32 rfl ?_
 refine ⟨_, rfl, ?_⟩
 exact ⟨_, rfl, (hw1.cast (by simp)).grows⟩
theorem bookBytes (kb : Nat) (vw vm v : Value) (an cp : List (Value × List Int)) (l : List Int) (hU : U8 l) (hL : l.length ≤ 1099511627776) (hn : an.length < 400) (hc : cp.length < 400) (w : World) (hS : Sep w.heap.size (fps (book kb vw vm an cp ++ [As.ri 5 .u8 v l])) w (book kb vw vm an cp ++ [As.ri 5 .u8 v l])) :
  CallsV P 11 [.pointer (some ⟨kb, 0, none⟩), v] w fun r w' => ∃ vw' vm' m, r = .tuple #[] ∧ Trans w w' (book kb vw vm an cp ++ [As.ri 5 .u8 v l]) (book kb vw' vm' (an ++ [(v, l)]) (cp ++ [(m, l)])) := by
 refine enterW Tryz.func11 rfl Tryz.ntmps11 rfl ?_
 have hw0 := St.startS hS
 have hw0 : St w w.heap.size (fps (book kb vw vm an cp ++ [As.ri 5 .u8 v l])) [As.blk kb 37 [vw, vm, .slice none 0 0, .slice none 0 0, .slice none 0 0, .slice none 0 0], As.ro 24 vw (an.map (·.1)), As.ro 24 vm (cp.map (·.1)), As.bag 5 (an.map fun p => (p.1, ints .u8 p.2)), As.bag 5 (cp.map fun p => (p.1, ints .u8 p.2)), As.ri 5 .u8 v l] w := hw0
 have hv1 : v.oneCell' = true := by
  obtain ⟨A, c, e, _⟩ := hw0.io mem5
  rw [e]
  rfl
 refine c_seq (c_region (l_move rfl rfl rfl (l_nilCheck rfl rfl rfl (l_field fo37_0 rfl rfl rfl ?_))))
 refine l_load_blk hw0 mem0 rfl rfl Tryz.underlying33 rfl rfl rfl ?_
 refine v_len rfl rfl Tryz.underlying33 rfl (by first | exact hw0.ibl mem0 | exact hw0.io mem1 | exact hw0.io mem2 | exact hw0.io mem5 | assumption) ?_
 refine l_lss rfl rfl rfl rfl ?_
 refine l_nil (e_then ?_)
 refine c_keep [0, 1, 9] (.cons rfl (.cons rfl (.cons rfl .nil))) ?_
 first | refine c_cond rfl (fun hc0 => ?_) (fun hc0 => ?_) | refine c_condb rfl (fun hc0 => ?_) (fun hc0 => ?_)
 ·skip
  refine c_seq (c_region (l_move rfl rfl rfl (l_move rfl rfl rfl (l_nilCheck rfl rfl rfl (l_field fo37_0 rfl rfl rfl ?_)))))
  refine l_load_blk hw0 mem0 rfl rfl Tryz.underlying33 rfl rfl rfl ?_
  refine l_move rfl rfl rfl ?_
  have hw1 := St.front1 hw0
  try clear hw0
  refine v_lit hw1 rfl rfl Tryz.underlying33 ti24 rfl (.cons rfl (by first | rfl | assumption) .nil) rfl rfl rfl (fun b1_6 w2 hw2 => ?_)
  try clear hw1
  refine v_push hw2 rfl rfl Tryz.underlying33 ti24 rfl rfl rfl rfl (by first | (simp [Value.oneCell']; done) | (intro u hu; rw [List.mem_singleton.1 hu]; assumption)) (by first | (simp; done) | (simp; omega)) (by first | (simp; done) | (simp; omega)) (fun v1_7 w3 hw3 => ?_)
  try clear hw2
  have h17 : v1_7.oneCell' = true := by
   obtain ⟨A, c, e, _⟩ := hw3.io mem0
   rw [e]
   rfl
  refine l_nilCheck rfl rfl rfl (l_field fo37_0 rfl rfl rfl ?_)
  refine l_store_blk hw3 (.tail .head) (by repeat (first | exact .zero | apply SetAt.succ)) rfl tz33 rfl rfl (by first | rfl | assumption) (fun w4 hw4 => ?_)
  try clear hw3
  refine l_nil (e_then ?_)
  refine c_keep [0, 1] (.cons rfl (.cons rfl .nil)) ?_
  have hw5 := hw4.drewn
  try clear hw4
  refine c_any (n := 12) [false, false, false, false, false, false, false, false, false, false, false, false] (fun wS => True) (by kernel_rfl) rfl rfl ?_
  apply a_take (L' := [true, false, false, false, false, false, false, false, false, false, false, false]) 0 rfl (by kernel_rfl) (by kernel_rfl) (by kernel_rfl) rfl rfl rfl rfl rfl (trivial)
  ·intro wS sS
   refine l_move rfl rfl rfl (l_nil ?_)
   exact e_got rfl
  apply a_take (L' := [true, true, false, false, false, false, false, false, false, false, false, false]) 1 rfl (by kernel_rfl) (by kernel_rfl) (by kernel_rfl) rfl rfl rfl rfl rfl (trivial)
  ·intro wS sS
   refine l_move rfl rfl rfl (l_nil ?_)
   exact e_got rfl
  refine a_nil (L' := [true, true, true, false, false, false, false, false, false, false, false, false]) 2 rfl (by kernel_rfl) (by kernel_rfl) (by kernel_rfl) rfl rfl rfl (trivial) rfl ?_
  apply a_take (L' := [true, true, true, true, false, false, false, false, false, false, false, false]) 3 rfl (by kernel_rfl) (by kernel_rfl) (by kernel_rfl) rfl rfl rfl rfl rfl (trivial)
  ·intro wS sS
   refine l_field fo37_1 rfl rfl rfl (l_nil ?_)
   exact e_got rfl
  apply a_take (L' := [true, true, true, true, false, true, false, false, false, false, false, false]) 5 rfl (by kernel_rfl) (by kernel_rfl) (by kernel_rfl) rfl rfl rfl rfl rfl (trivial)
  ·intro wS sS
   refine l_move rfl rfl rfl (l_nil ?_)
   exact e_got rfl
  refine a_two (L' := [true, true, true, true, true, true, false, false, false, false, false, false]) (L'' := [true, true, true, true, false, true, true, false, false, false, false, false]) 4 6 (by kernel_rfl) rfl rfl rfl rfl ?_ ?_
  ·skip
   refine l_load_blk hw5 mem1 rfl rfl Tryz.underlying33 rfl rfl rfl ?_
   refine l_nil ?_
   refine e_any (trivial) ?_
   refine a_one (L' := [true, true, true, true, true, true, true, false, false, false, false, false]) 6 (by kernel_rfl) rfl rfl ?_
   refine l_call rfl rfl Tryz.func32 rfl rfl (.cons rfl .nil) (twinK v l hL w4.drew (hw5.io mem5)) ?_
   rintro vt2 w6 ⟨_, rfl, hG⟩
   have hw6 := hG _ _ _ _ hw5
   try clear hG hw5
   simp only [List.cons_append, List.nil_append] at hw6
   have ht1 : vt2.oneCell' = true := by
    obtain ⟨A, c, e, _⟩ := hw6.io mem0
    rw [e]
    rfl
   refine l_nil ?_
   refine e_any (trivial) ?_
   refine a_one (L' := [true, true, true, true, true, true, true, true, false, false, false, false]) 7 (by kernel_rfl) rfl rfl ?_
   have hw7 := St.front3 hw6
   try clear hw6
   refine v_lit hw7 rfl rfl Tryz.underlying33 ti24 rfl (.cons rfl (by first | rfl | assumption) .nil) rfl rfl rfl (fun b2_7 w8 hw8 => ?_)
   try clear hw7
   refine l_nil ?_
   refine e_any (trivial) ?_
   refine a_one (L' := [true, true, true, true, true, true, true, true, true, false, false, false]) 8 (by kernel_rfl) rfl rfl ?_
   refine v_push hw8 rfl rfl Tryz.underlying33 ti24 rfl rfl rfl rfl (by first | (simp [Value.oneCell']; done) | (intro u hu; rw [List.mem_singleton.1 hu]; assumption)) (by first | (simp; done) | (simp; omega)) (by first | (simp; done) | (simp; omega)) (fun v2_8 w9 hw9 => ?_)
   try clear hw8
   have h28 : v2_8.oneCell' = true := by
    obtain ⟨A, c, e, _⟩ := hw9.io mem0
    rw [e]
    rfl
   refine l_nil ?_
   refine e_any (trivial) ?_
   refine a_nil (L' := [true, true, true, true, true, true, true, true, true, true, false, false]) 9 rfl (by kernel_rfl) (by kernel_rfl) (by kernel_rfl) rfl rfl rfl (trivial) rfl ?_
   apply a_take (L' := [true, true, true, true, true, true, true, true, true, true, true, false]) 10 rfl (by kernel_rfl) (by kernel_rfl) (by kernel_rfl) rfl rfl rfl rfl rfl (trivial)
   ·intro wS sS
    refine l_field fo37_1 rfl rfl rfl (l_nil ?_)
    exact e_got rfl
   refine a_one (L' := [true, true, true, true, true, true, true, true, true, true, true, true]) 11 (by kernel_rfl) rfl rfl ?_
   refine l_store_blk hw9 (.tail (.tail (.tail .head))) (by repeat (first | exact .zero | apply SetAt.succ)) rfl tz33 rfl rfl (by first | rfl | assumption) (fun w10 hw10 => ?_)
   try clear hw9
   refine l_nil ?_
   refine e_any (trivial) ?_
   refine a_done (by kernel_rfl) ?_
   try dsimp only
   refine e_done0 Tryz.results11 ?_
   refine ⟨_, rfl, ?_⟩
   have hw11 := St.front2 hw10
   try clear hw10
   have hw12 := St.front3 hw11
   try clear hw11
   have hw13 := St.front5 hw12
   try clear hw12
   have hw14 := St.front4 hw13
   try clear hw13
   have hw15 := St.front5 hw14
   try clear hw14
   have hw16 := St.front6 hw15
   try clear hw15
   have h1 := bag_in (a := an.map fun p => (p.1, ints .u8 p.2)) (b := []) (hw16.cast (by rw [List.append_nil]))
   have h2 := h1.front1.front2.front1
   have h3 := bag_in (a := cp.map fun p => (p.1, ints .u8 p.2)) (b := []) (h2.cast (by rw [List.append_nil]))
   have h4 := h3.front1.front4.front4.front4
   exact ⟨_, _, vt2, rfl, (h4.cast (show _ = book kb v1_7 v2_8 (an ++ [(v, l)]) (cp ++ [(vt2, l)]) from by unfold book; simp only [List.map_append, List.map_cons, List.map_nil])).transS⟩
  ·skip
   refine l_call rfl rfl Tryz.func32 rfl rfl (.cons rfl .nil) (twinK v l hL w4.drew (hw5.io mem5)) ?_
   rintro vt2 w17 ⟨_, rfl, hG⟩
   have hw17 := hG _ _ _ _ hw5
   try clear hG hw5
   simp only [List.cons_append, List.nil_append] at hw17
   have ht1 : vt2.oneCell' = true := by
    obtain ⟨A, c, e, _⟩ := hw17.io mem0
    rw [e]
    rfl
   refine l_nil ?_
   refine e_any (trivial) ?_
   refine a_two (L' := [true, true, true, true, true, true, true, false, false, false, false, false]) (L'' := [true, true, true, true, false, true, true, true, false, false, false, false]) 4 7 (by kernel_rfl) rfl rfl rfl rfl ?_ ?_
   ·skip
    refine l_load_blk hw17 mem2 rfl rfl Tryz.underlying33 rfl rfl rfl ?_
    refine l_nil ?_
    refine e_any (trivial) ?_
    refine a_one (L' := [true, true, true, true, true, true, true, true, false, false, false, false]) 7 (by kernel_rfl) rfl rfl ?_
    have hw18 := St.front3 hw17
    try clear hw17
    refine v_lit hw18 rfl rfl Tryz.underlying33 ti24 rfl (.cons rfl (by first | rfl | assumption) .nil) rfl rfl rfl (fun b2_7 w19 hw19 => ?_)
    try clear hw18
    refine l_nil ?_
    refine e_any (trivial) ?_
    refine a_one (L' := [true, true, true, true, true, true, true, true, true, false, false, false]) 8 (by kernel_rfl) rfl rfl ?_
    refine v_push hw19 rfl rfl Tryz.underlying33 ti24 rfl rfl rfl rfl (by first | (simp [Value.oneCell']; done) | (intro u hu; rw [List.mem_singleton.1 hu]; assumption)) (by first | (simp; done) | (simp; omega)) (by first | (simp; done) | (simp; omega)) (fun v2_8 w20 hw20 => ?_)
    try clear hw19
    have h28 : v2_8.oneCell' = true := by
     obtain ⟨A, c, e, _⟩ := hw20.io mem0
     rw [e]
     rfl
    refine l_nil ?_
    refine e_any (trivial) ?_
    refine a_nil (L' := [true, true, true, true, true, true, true, true, true, true, false, false]) 9 rfl (by kernel_rfl) (by kernel_rfl) (by kernel_rfl) rfl rfl rfl (trivial) rfl ?_
    apply a_take (L' := [true, true, true, true, true, true, true, true, true, true, true, false]) 10 rfl (by kernel_rfl) (by kernel_rfl) (by kernel_rfl) rfl rfl rfl rfl rfl (trivial)
    ·intro wS sS
     refine l_field fo37_1 rfl rfl rfl (l_nil ?_)
     exact e_got rfl
    refine a_one (L' := [true, true, true, true, true, true, true, true, true, true, true, true]) 11 (by kernel_rfl) rfl rfl ?_
    refine l_store_blk hw20 (.tail (.tail (.tail .head))) (by repeat (first | exact .zero | apply SetAt.succ)) rfl tz33 rfl rfl (by first | rfl | assumption) (fun w21 hw21 => ?_)
    try clear hw20
    refine l_nil ?_
    refine e_any (trivial) ?_
    refine a_done (by kernel_rfl) ?_
    try dsimp only
    refine e_done0 Tryz.results11 ?_
    refine ⟨_, rfl, ?_⟩
    have hw22 := St.front2 hw21
    try clear hw21
    have hw23 := St.front3 hw22
    try clear hw22
    have hw24 := St.front5 hw23
    try clear hw23
    have hw25 := St.front4 hw24
    try clear hw24
    have hw26 := St.front5 hw25
    try clear hw25
    have hw27 := St.front6 hw26
    try clear hw26
    have h1 := bag_in (a := an.map fun p => (p.1, ints .u8 p.2)) (b := []) (hw27.cast (by rw [List.append_nil]))
    have h2 := h1.front1.front2.front1
    have h3 := bag_in (a := cp.map fun p => (p.1, ints .u8 p.2)) (b := []) (h2.cast (by rw [List.append_nil]))
    have h4 := h3.front1.front4.front4.front4
    exact ⟨_, _, vt2, rfl, (h4.cast (show _ = book kb v1_7 v2_8 (an ++ [(v, l)]) (cp ++ [(vt2, l)]) from by unfold book; simp only [List.map_append, List.map_cons, List.map_nil])).transS⟩
   ·skip
    have hw28 := St.front3 hw17
    try clear hw17
    refine v_lit hw28 rfl rfl Tryz.underlying33 ti24 rfl (.cons rfl (by first | rfl | assumption) .nil) rfl rfl rfl (fun b2_7 w29 hw29 => ?_)
    try clear hw28
    refine l_nil ?_
    refine e_any (trivial) ?_
    refine a_one (L' := [true, true, true, true, true, true, true, true, false, false, false, false]) 4 (by kernel_rfl) rfl rfl ?_
    refine l_load_blk hw29 mem4 rfl rfl Tryz.underlying33 rfl rfl rfl ?_
    refine l_nil ?_
    refine e_any (trivial) ?_
    refine a_one (L' := [true, true, true, true, true, true, true, true, true, false, false, false]) 8 (by kernel_rfl) rfl rfl ?_
    refine v_push hw29 rfl rfl Tryz.underlying33 ti24 rfl rfl rfl rfl (by first | (simp [Value.oneCell']; done) | (intro u hu; rw [List.mem_singleton.1 hu]; assumption)) (by first | (simp; done) | (simp; omega)) (by first | (simp; done) | (simp; omega)) (fun v2_8 w30 hw30 => ?_)
    try clear hw29
    have h28 : v2_8.oneCell' = true := by
     obtain ⟨A, c, e, _⟩ := hw30.io mem0
     rw [e]
     rfl
    refine l_nil ?_
    refine e_any (trivial) ?_
    refine a_nil (L' := [true, true, true, true, true, true, true, true, true, true, false, false]) 9 rfl (by kernel_rfl) (by kernel_rfl) (by kernel_rfl) rfl rfl rfl (trivial) rfl ?_
    apply a_take (L' := [true, true, true, true, true, true, true, true, true, true, true, false]) 10 rfl (by kernel_rfl) (by kernel_rfl) (by kernel_rfl) rfl rfl rfl rfl rfl (trivial)
    ·intro wS sS
     refine l_field fo37_1 rfl rfl rfl (l_nil ?_)
     exact e_got rfl
    refine a_one (L' := [true, true, true, true, true, true, true, true, true, true, true, true]) 11 (by kernel_rfl) rfl rfl ?_
    refine l_store_blk hw30 (.tail (.tail (.tail .head))) (by repeat (first | exact .zero | apply SetAt.succ)) rfl tz33 rfl rfl (by first | rfl | assumption) (fun w31 hw31 => ?_)
    try clear hw30
    refine l_nil ?_
    refine e_any (trivial) ?_
    refine a_done (by kernel_rfl) ?_
    try dsimp only
    refine e_done0 Tryz.results11 ?_
    refine ⟨_, rfl, ?_⟩
    have hw32 := St.front2 hw31
    try clear hw31
    have hw33 := St.front3 hw32
    try clear hw32
    have hw34 := St.front5 hw33
    try clear hw33
    have hw35 := St.front4 hw34
    try clear hw34
    have hw36 := St.front5 hw35
    try clear hw35
    have hw37 := St.front6 hw36
    try clear hw36
    have h1 := bag_in (a := an.map fun p => (p.1, ints .u8 p.2)) (b := []) (hw37.cast (by rw [List.append_nil]))
    have h2 := h1.front1.front2.front1
    have h3 := bag_in (a := cp.map fun p => (p.1, ints .u8 p.2)) (b := []) (h2.cast (by rw [List.append_nil]))
    have h4 := h3.front1.front4.front4.front4
    exact ⟨_, _, vt2, rfl, (h4.cast (show _ = book kb v1_7 v2_8 (an ++ [(v, l)]) (cp ++ [(vt2, l)]) from by unfold book; simp only [List.map_append, List.map_cons, List.map_nil])).transS⟩
 ·skip
  exact absurd (show ((an.map (·.1)).length : Int) < 400 by simp; omega) hc0
theorem map_at {an : List (Value × List Int)} {i : Nat} (h : i < an.length) : (an.map (·.1))[((i : Nat) : Int).toNat]? = some (an.getD i (.bool true, [])).1 := by
 rw [Int.toNat_natCast, List.getElem?_map]
 simp [List.getD, h]
theorem bag_at {an : List (Value × List Int)} {i : Nat} (h : i < an.length) : ((an.getD i (.bool true, [])).1, ints .u8 (an.getD i (.bool true, [])).2) ∈ an.map fun p => (p.1, ints .u8 p.2) := by
 have e : an.getD i (.bool true, []) = an[i] := by simp [List.getD, h]
 rw [e]
 exact List.mem_map.2 ⟨an[i], List.getElem_mem h, rfl⟩
theorem bag_ib {w : World} {v : Value} {l : List Int} (h : IV w v (ints .u8 l)) (hU : U8 l) : IB w v (l.map fun x => UInt8.ofNat x.toNat) := by
 rw [ints_bys hU] at h
 exact h
theorem bookLook (kb : Nat) (vw vm : Value) (an cp : List (Value × List Int)) (hn : an.length ≤ 100) (hc : cp.length = an.length) (hsame : ∀ i, i < an.length → (cp.getD i (.bool true, [])).2 = (an.getD i (.bool true, [])).2) (hU : ∀ i, i < an.length → U8 (an.getD i (.bool true, [])).2) (hL : ∀ i, i < an.length → (an.getD i (.bool true, [])).2.length ≤ 1099511627776) (w : World) (hS : Sep w.heap.size (fps (book kb vw vm an cp)) w (book kb vw vm an cp)) :
  CallsV P 33 [.pointer (some ⟨kb, 0, none⟩)] w fun r w' => r = .bool true ∧ Trans w w' (book kb vw vm an cp) (book kb vw vm an cp) := by
 refine enterW Tryz.func33 rfl Tryz.ntmps33 rfl ?_
 have hw0 := St.startS hS
 have hw0 : St w w.heap.size (fps (book kb vw vm an cp)) [As.blk kb 37 [vw, vm, .slice none 0 0, .slice none 0 0, .slice none 0 0, .slice none 0 0], As.ro 24 vw (an.map (·.1)), As.ro 24 vm (cp.map (·.1)), As.bag 5 (an.map fun p => (p.1, ints .u8 p.2)), As.bag 5 (cp.map fun p => (p.1, ints .u8 p.2))] w := hw0
 have hnil := IV.nil w
 refine c_seq (c_region (l_assign rfl rfl rfl (l_nil (e_then ?_))))
 refine c_keep [0] (.cons rfl .nil) ?_
 refine c_seq (c_seq (c_region (l_assign rfl rfl rfl (l_nil (e_then ?_)))))
 refine c_block ?_
 refine c_loopk (ι := Nat) (fun (i : Nat) => an.length - i) (fun (i : Nat) (w' : World) => St w w.heap.size (fps (book kb vw vm an cp)) ([As.blk kb 37 [vw, vm, .slice none 0 0, .slice none 0 0, .slice none 0 0, .slice none 0 0], As.ro 24 vw (an.map (·.1)), As.ro 24 vm (cp.map (·.1)), As.bag 5 (an.map fun p => (p.1, ints .u8 p.2)), As.bag 5 (cp.map fun p => (p.1, ints .u8 p.2))]) w' ∧ i ≤ an.length) (fun (i : Nat) => [(3, .int .i64 (i : Int))]) [0] (0) ?_ (.cons rfl .nil) ?_ ?_
 ·exact ⟨hw0, by omega⟩
 ·exact (.cons rfl (by first | rfl | (refine congrArg (Value.int _) ?_; omega)) .nil)
 rintro i w1 ⟨hw1, hi⟩
 show RunC P _ _ _ (_ :: _) _
 refine c_seq (c_seq (c_region (l_move rfl rfl rfl (l_move rfl rfl rfl (l_nilCheck rfl rfl rfl ?_)))))
 refine l_field fo37_0 rfl rfl rfl ?_
 refine l_load_blk hw1 mem0 rfl rfl Tryz.underlying33 rfl rfl rfl ?_
 refine v_len rfl rfl Tryz.underlying33 rfl (by first | exact hw1.ibl mem0 | exact hw1.io mem1 | exact hw1.io mem2 | assumption) ?_
 refine l_lss rfl rfl rfl rfl ?_
 refine l_nil (e_then ?_)
 refine c_keep [0, 3, 12] (.cons rfl (.cons rfl (.cons rfl .nil))) ?_
 first | refine c_cond rfl (fun hc0 => ?_) (fun hc0 => ?_) | refine c_condb rfl (fun hc0 => ?_) (fun hc0 => ?_)
 ·skip
  refine c_skip (e_then ?_)
  refine c_keep [0, 3] (.cons rfl (.cons rfl .nil)) ?_
  refine c_seq (c_block (c_seq ?_))
  refine c_still (by kernel_rfl) (by kernel_rfl) ?_
  have hw2 := hw1.drewn
  try clear hw1
  have hi1 : i < an.length := by simp at hc0; omega
  refine l_move rfl rfl rfl (l_nilCheck rfl rfl rfl (l_field fo37_0 rfl rfl rfl ?_))
  refine l_load_blk hw2 mem0 rfl rfl Tryz.underlying33 rfl rfl rfl ?_
  refine l_move rfl rfl rfl ?_
  refine v_get rfl rfl rfl rfl Tryz.underlying33 tz24 Tryz.underlying24 rfl rfl rfl (by first | exact hw2.ibl mem0 | exact hw2.io mem1 | exact hw2.io mem2 | assumption) (by first | omega | (simp; omega)) (map_at hi1) ?_ rfl
  refine l_move rfl rfl rfl (l_nilCheck rfl rfl rfl (l_field fo37_1 rfl rfl rfl ?_))
  refine l_load_blk hw2 mem0 rfl rfl Tryz.underlying33 rfl rfl rfl ?_
  refine l_move rfl rfl rfl ?_
  refine v_get rfl rfl rfl rfl Tryz.underlying33 tz24 Tryz.underlying24 rfl rfl rfl (by first | exact hw2.ibl mem0 | exact hw2.io mem1 | exact hw2.io mem2 | assumption) (by first | omega | (simp; omega)) (map_at (show i < cp.length by omega)) ?_ rfl
  refine l_callp rfl rfl Tryz.func9 rfl rfl (.cons rfl (.cons rfl .nil)) (sameK _ _ ((an.getD i (.bool true, [])).2.map fun x => UInt8.ofNat x.toNat) ((cp.getD i (.bool true, [])).2.map fun x => UInt8.ofNat x.toNat) w1.drew (bag_ib (bag_iv hw2 mem3 (bag_at hi1)) (hU i hi1)) (bag_ib (bag_iv hw2 mem4 (bag_at (show i < cp.length by omega))) (by rw [hsame i hi1]; exact hU i hi1))) ?_
  refine l_turn (s := 29) (v' := .bool true) rfl (by rw [hsame i hi1, decide_eq_true rfl]) ?_
  first | refine l_notd rfl rfl rfl ?_ | refine l_not rfl rfl rfl ?_
  refine l_turn (s := 30) (v' := .bool false) rfl (by rfl) ?_
  refine l_nil (e_then ?_)
  refine c_keep [0, 3, 30] (.cons rfl (.cons rfl (.cons rfl .nil))) ?_
  refine c_cond_f rfl rfl ?_
  refine c_skip ?_
  refine e_blk ?_
  refine e_then ?_
  refine c_keep [0, 3] (.cons rfl (.cons rfl .nil)) ?_
  refine c_region (l_move rfl rfl rfl ?_)
  refine l_add rfl rfl rfl rfl (w_i64 (by omega)) ?_
  refine l_assign rfl rfl rfl (l_nil ?_)
  refine e_againk (i := (i)) (i + 1) ?_ ?_ (.cons rfl .nil) ?_
  ·first | omega | (simp; omega)
  ·exact ⟨hw2, by omega⟩
  ·exact (.cons rfl (by first | rfl | (refine congrArg (Value.int _) ?_; omega)) .nil)
 ·skip
  refine c_exit ?_
  refine e_then_exit ?_
  refine e_then_exit ?_
  refine e_blk_exit ?_
  refine e_then ?_
  refine c_keep [0] (.cons rfl .nil) ?_
  refine c_seq (c_seq (c_region (l_assign rfl rfl rfl (l_nil (e_then ?_)))))
  refine c_block ?_
  refine c_loopk (ι := Unit) (fun (z : Unit) => 0) (fun (z : Unit) (w' : World) => St w w.heap.size (fps (book kb vw vm an cp)) ([As.blk kb 37 [vw, vm, .slice none 0 0, .slice none 0 0, .slice none 0 0, .slice none 0 0], As.ro 24 vw (an.map (·.1)), As.ro 24 vm (cp.map (·.1)), As.bag 5 (an.map fun p => (p.1, ints .u8 p.2)), As.bag 5 (cp.map fun p => (p.1, ints .u8 p.2))]) w' ∧ True) (fun (z : Unit) => [(4, .int .i64 0)]) [0] (()) ?_ (.cons rfl .nil) ?_ ?_
  ·exact ⟨hw1, trivial⟩
  ·exact (.cons rfl (by first | rfl | (refine congrArg (Value.int _) ?_; omega)) .nil)
  rintro z w3 ⟨hw3, _⟩
  show RunC P _ _ _ (_ :: _) _
  refine c_seq (c_seq (c_region (l_move rfl rfl rfl (l_move rfl rfl rfl (l_nilCheck rfl rfl rfl ?_)))))
  refine l_field fo37_2 rfl rfl rfl ?_
  refine l_load_blk hw3 mem0 rfl rfl Tryz.underlying34 rfl rfl rfl ?_
  refine v_len rfl rfl Tryz.underlying34 rfl (by first | exact hw3.ibl mem0 | exact hw3.io mem1 | exact hw3.io mem2 | assumption) ?_
  refine l_lss rfl rfl rfl rfl ?_
  refine l_nil (e_then ?_)
  refine c_keep [0, 4, 37] (.cons rfl (.cons rfl (.cons rfl .nil))) ?_
  first | refine c_cond rfl (fun hc2 => ?_) (fun hc2 => ?_) | refine c_condb rfl (fun hc2 => ?_) (fun hc2 => ?_)
  ·skip
   exact absurd hc2 (by simp)
  ·skip
   refine c_exit ?_
   refine e_then_exit ?_
   refine e_then_exit ?_
   refine e_blk_exit ?_
   refine e_then ?_
   refine c_keep [0] (.cons rfl .nil) ?_
   refine c_seq (c_seq (c_region (l_assign rfl rfl rfl (l_nil (e_then ?_)))))
   refine c_block ?_
   refine c_loopk (ι := Unit) (fun (z : Unit) => 0) (fun (z : Unit) (w' : World) => St w w.heap.size (fps (book kb vw vm an cp)) ([As.blk kb 37 [vw, vm, .slice none 0 0, .slice none 0 0, .slice none 0 0, .slice none 0 0], As.ro 24 vw (an.map (·.1)), As.ro 24 vm (cp.map (·.1)), As.bag 5 (an.map fun p => (p.1, ints .u8 p.2)), As.bag 5 (cp.map fun p => (p.1, ints .u8 p.2))]) w' ∧ True) (fun (z : Unit) => [(5, .int .i64 0)]) [0] (()) ?_ (.cons rfl .nil) ?_ ?_
   ·exact ⟨hw3, trivial⟩
   ·exact (.cons rfl (by first | rfl | (refine congrArg (Value.int _) ?_; omega)) .nil)
   rintro z w4 ⟨hw4, _⟩
   show RunC P _ _ _ (_ :: _) _
   refine c_seq (c_seq (c_region (l_move rfl rfl rfl (l_move rfl rfl rfl (l_nilCheck rfl rfl rfl ?_)))))
   refine l_field fo37_4 rfl rfl rfl ?_
   refine l_load_blk hw4 mem0 rfl rfl Tryz.underlying35 rfl rfl rfl ?_
   refine v_len rfl rfl Tryz.underlying35 rfl (by first | exact hw4.ibl mem0 | exact hw4.io mem1 | exact hw4.io mem2 | assumption) ?_
   refine l_lss rfl rfl rfl rfl ?_
   refine l_nil (e_then ?_)
   refine c_keep [0, 5, 62] (.cons rfl (.cons rfl (.cons rfl .nil))) ?_
   first | refine c_cond rfl (fun hc3 => ?_) (fun hc3 => ?_) | refine c_condb rfl (fun hc3 => ?_) (fun hc3 => ?_)
   ·skip
    exact absurd hc3 (by simp)
   ·skip
    refine c_exit ?_
    refine e_then_exit ?_
    refine e_then_exit ?_
    refine e_blk_exit ?_
    refine e_then ?_
    refine c_keep [] .nil ?_
    refine c_seq (c_region (l_assign rfl rfl rfl (l_nil (e_then ?_))))
    refine c_ret ?_
    refine e_done1 Tryz.results33 rfl ?_
    refine ⟨_, rfl, ?_⟩
    exact ⟨rfl, St.transS (τ' := (book kb vw vm an cp)) hw4⟩
theorem closeW (kb : Nat) (vw vm : Value) (w : World) (hS : Sep w.heap.size (fps [As.blk kb 37 [vw, vm, .slice none 0 0, .slice none 0 0, .slice none 0 0, .slice none 0 0]]) w [As.blk kb 37 [vw, vm, .slice none 0 0, .slice none 0 0, .slice none 0 0, .slice none 0 0]]) :
  CallsV P 35 [.pointer (some ⟨kb, 0, none⟩)] w fun r w' => r = .bool true ∧ Trans w w' [As.blk kb 37 [vw, vm, .slice none 0 0, .slice none 0 0, .slice none 0 0, .slice none 0 0]] [As.blk kb 37 [vw, vm, .slice none 0 0, .slice none 0 0, .slice none 0 0, .slice none 0 0]] := by
 refine enterW Tryz.func35 rfl Tryz.ntmps35 rfl ?_
 have hw0 := St.startS hS
 have hnil := IV.nil w
 refine c_seq (c_region (l_assign rfl rfl rfl (l_nil (e_then ?_))))
 refine c_keep [0] (.cons rfl .nil) ?_
 refine c_seq (c_seq (c_region (l_assign rfl rfl rfl (l_nil (e_then ?_)))))
 refine c_block ?_
 refine c_loopk (ι := Unit) (fun (z : Unit) => 0) (fun (z : Unit) (w' : World) => St w w.heap.size (fps [As.blk kb 37 [vw, vm, .slice none 0 0, .slice none 0 0, .slice none 0 0, .slice none 0 0]]) ([As.blk kb 37 [vw, vm, .slice none 0 0, .slice none 0 0, .slice none 0 0, .slice none 0 0]]) w' ∧ True) (fun (z : Unit) => [(3, .int .i64 0)]) [0] (()) ?_ (.cons rfl .nil) ?_ ?_
 ·exact ⟨hw0, trivial⟩
 ·exact (.cons rfl (by first | rfl | (refine congrArg (Value.int _) ?_; omega)) .nil)
 rintro z w1 ⟨hw1, _⟩
 show RunC P _ _ _ (_ :: _) _
 refine c_seq (c_seq (c_region (l_move rfl rfl rfl (l_move rfl rfl rfl (l_nilCheck rfl rfl rfl ?_)))))
 refine l_field fo37_2 rfl rfl rfl ?_
 refine l_load_blk hw1 mem0 rfl rfl Tryz.underlying34 rfl rfl rfl ?_
 refine v_len rfl rfl Tryz.underlying34 rfl (by first | exact hw1.ibl mem0 | assumption) ?_
 refine l_lss rfl rfl rfl rfl ?_
 refine l_nil (e_then ?_)
 refine c_keep [0, 3, 17] (.cons rfl (.cons rfl (.cons rfl .nil))) ?_
 first | refine c_cond rfl (fun hc0 => ?_) (fun hc0 => ?_) | refine c_condb rfl (fun hc0 => ?_) (fun hc0 => ?_)
 ·skip
  exact absurd hc0 (by simp)
 ·skip
  refine c_exit ?_
  refine e_then_exit ?_
  refine e_then_exit ?_
  refine e_blk_exit ?_
  refine e_then ?_
  refine c_keep [0] (.cons rfl .nil) ?_
  refine c_seq (c_region (l_assign rfl rfl rfl (l_nil (e_then (c_seq ?_)))))
  refine c_seq (c_region (l_assign rfl rfl rfl (l_nil (e_then (c_block ?_)))))
  refine c_loopk (ι := Unit) (fun (z : Unit) => 0) (fun (z : Unit) (w' : World) => St w w.heap.size (fps [As.blk kb 37 [vw, vm, .slice none 0 0, .slice none 0 0, .slice none 0 0, .slice none 0 0]]) ([As.blk kb 37 [vw, vm, .slice none 0 0, .slice none 0 0, .slice none 0 0, .slice none 0 0]]) w' ∧ True) (fun (z : Unit) => [(5, .slice none 0 0), (6, .int .i64 0)]) [0] (()) ?_ (.cons rfl .nil) ?_ ?_
  ·exact ⟨hw1, trivial⟩
  ·exact (.cons rfl (by first | rfl | (refine congrArg (Value.int _) ?_; omega)) (.cons rfl (by first | rfl | (refine congrArg (Value.int _) ?_; omega)) .nil))
  rintro z w2 ⟨hw2, _⟩
  show RunC P _ _ _ (_ :: _) _
  refine c_seq (c_seq (c_region (l_move rfl rfl rfl (l_move rfl rfl rfl (l_nilCheck rfl rfl rfl ?_)))))
  refine l_field fo37_2 rfl rfl rfl ?_
  refine l_load_blk hw2 mem0 rfl rfl Tryz.underlying34 rfl rfl rfl ?_
  refine v_len rfl rfl Tryz.underlying34 rfl (by first | exact hw2.ibl mem0 | assumption) ?_
  refine l_lss rfl rfl rfl rfl ?_
  refine l_nil (e_then ?_)
  refine c_keep [0, 5, 6, 49] (.cons rfl (.cons rfl (.cons rfl (.cons rfl .nil)))) ?_
  first | refine c_cond rfl (fun hc1 => ?_) (fun hc1 => ?_) | refine c_condb rfl (fun hc1 => ?_) (fun hc1 => ?_)
  ·skip
   exact absurd hc1 (by simp)
  ·skip
   refine c_exit ?_
   refine e_then_exit ?_
   refine e_then_exit ?_
   refine e_blk_exit ?_
   refine e_then ?_
   refine c_keep [0, 5] (.cons rfl (.cons rfl .nil)) ?_
   refine c_seq (c_seq (c_region (l_assign rfl rfl rfl (l_nil (e_then ?_)))))
   refine c_block ?_
   refine c_loopk (ι := Unit) (fun (z : Unit) => 0) (fun (z : Unit) (w' : World) => St w w.heap.size (fps [As.blk kb 37 [vw, vm, .slice none 0 0, .slice none 0 0, .slice none 0 0, .slice none 0 0]]) ([As.blk kb 37 [vw, vm, .slice none 0 0, .slice none 0 0, .slice none 0 0, .slice none 0 0]]) w' ∧ True) (fun (z : Unit) => [(8, .int .i64 0)]) [0, 5] (()) ?_ (.cons rfl (.cons rfl .nil)) ?_ ?_
   ·exact ⟨hw2, trivial⟩
   ·exact (.cons rfl (by first | rfl | (refine congrArg (Value.int _) ?_; omega)) .nil)
   rintro z w3 ⟨hw3, _⟩
   show RunC P _ _ _ (_ :: _) _
   refine c_seq (c_seq (c_region (l_move rfl rfl rfl (l_move rfl rfl rfl ?_))))
   refine v_len rfl rfl Tryz.underlying34 rfl (by first | exact hw3.ibl mem0 | assumption) ?_
   refine l_lss rfl rfl rfl rfl ?_
   refine l_nil (e_then ?_)
   refine c_keep [0, 5, 8, 76] (.cons rfl (.cons rfl (.cons rfl (.cons rfl .nil)))) ?_
   first | refine c_cond rfl (fun hc2 => ?_) (fun hc2 => ?_) | refine c_condb rfl (fun hc2 => ?_) (fun hc2 => ?_)
   ·skip
    exact absurd hc2 (by simp)
   ·skip
    refine c_exit ?_
    refine e_then_exit ?_
    refine e_then_exit ?_
    refine e_blk_exit ?_
    refine e_then ?_
    refine c_keep [] .nil ?_
    refine c_seq (c_region (l_assign rfl rfl rfl (l_nil (e_then ?_))))
    refine c_ret ?_
    refine e_done1 Tryz.results35 rfl ?_
    refine ⟨_, rfl, ?_⟩
    exact ⟨rfl, St.transS (τ' := [As.blk kb 37 [vw, vm, .slice none 0 0, .slice none 0 0, .slice none 0 0, .slice none 0 0]]) hw3⟩
theorem closeI (kb : Nat) (vw vm : Value) (w : World) (hS : Sep w.heap.size (fps [As.blk kb 37 [vw, vm, .slice none 0 0, .slice none 0 0, .slice none 0 0, .slice none 0 0]]) w [As.blk kb 37 [vw, vm, .slice none 0 0, .slice none 0 0, .slice none 0 0, .slice none 0 0]]) :
  CallsV P 36 [.pointer (some ⟨kb, 0, none⟩)] w fun r w' => r = .bool true ∧ Trans w w' [As.blk kb 37 [vw, vm, .slice none 0 0, .slice none 0 0, .slice none 0 0, .slice none 0 0]] [As.blk kb 37 [vw, vm, .slice none 0 0, .slice none 0 0, .slice none 0 0, .slice none 0 0]] := by
 refine enterW Tryz.func36 rfl Tryz.ntmps36 rfl ?_
 have hw0 := St.startS hS
 have hnil := IV.nil w
 refine c_seq (c_region (l_assign rfl rfl rfl (l_nil (e_then ?_))))
 refine c_keep [0] (.cons rfl .nil) ?_
 refine c_seq (c_seq (c_region (l_assign rfl rfl rfl (l_nil (e_then ?_)))))
 refine c_block ?_
 refine c_loopk (ι := Unit) (fun (z : Unit) => 0) (fun (z : Unit) (w' : World) => St w w.heap.size (fps [As.blk kb 37 [vw, vm, .slice none 0 0, .slice none 0 0, .slice none 0 0, .slice none 0 0]]) ([As.blk kb 37 [vw, vm, .slice none 0 0, .slice none 0 0, .slice none 0 0, .slice none 0 0]]) w' ∧ True) (fun (z : Unit) => [(3, .int .i64 0)]) [0] (()) ?_ (.cons rfl .nil) ?_ ?_
 ·exact ⟨hw0, trivial⟩
 ·exact (.cons rfl (by first | rfl | (refine congrArg (Value.int _) ?_; omega)) .nil)
 rintro z w1 ⟨hw1, _⟩
 show RunC P _ _ _ (_ :: _) _
 refine c_seq (c_seq (c_region (l_move rfl rfl rfl (l_move rfl rfl rfl (l_nilCheck rfl rfl rfl ?_)))))
 refine l_field fo37_4 rfl rfl rfl ?_
 refine l_load_blk hw1 mem0 rfl rfl Tryz.underlying35 rfl rfl rfl ?_
 refine v_len rfl rfl Tryz.underlying35 rfl (by first | exact hw1.ibl mem0 | assumption) ?_
 refine l_lss rfl rfl rfl rfl ?_
 refine l_nil (e_then ?_)
 refine c_keep [0, 3, 17] (.cons rfl (.cons rfl (.cons rfl .nil))) ?_
 first | refine c_cond rfl (fun hc0 => ?_) (fun hc0 => ?_) | refine c_condb rfl (fun hc0 => ?_) (fun hc0 => ?_)
 ·skip
  exact absurd hc0 (by simp)
 ·skip
  refine c_exit ?_
  refine e_then_exit ?_
  refine e_then_exit ?_
  refine e_blk_exit ?_
  refine e_then ?_
  refine c_keep [0] (.cons rfl .nil) ?_
  refine c_seq (c_region (l_assign rfl rfl rfl (l_nil (e_then (c_seq ?_)))))
  refine c_seq (c_region (l_assign rfl rfl rfl (l_nil (e_then (c_block ?_)))))
  refine c_loopk (ι := Unit) (fun (z : Unit) => 0) (fun (z : Unit) (w' : World) => St w w.heap.size (fps [As.blk kb 37 [vw, vm, .slice none 0 0, .slice none 0 0, .slice none 0 0, .slice none 0 0]]) ([As.blk kb 37 [vw, vm, .slice none 0 0, .slice none 0 0, .slice none 0 0, .slice none 0 0]]) w' ∧ True) (fun (z : Unit) => [(5, .slice none 0 0), (6, .int .i64 0)]) [0] (()) ?_ (.cons rfl .nil) ?_ ?_
  ·exact ⟨hw1, trivial⟩
  ·exact (.cons rfl (by first | rfl | (refine congrArg (Value.int _) ?_; omega)) (.cons rfl (by first | rfl | (refine congrArg (Value.int _) ?_; omega)) .nil))
  rintro z w2 ⟨hw2, _⟩
  show RunC P _ _ _ (_ :: _) _
  refine c_seq (c_seq (c_region (l_move rfl rfl rfl (l_move rfl rfl rfl (l_nilCheck rfl rfl rfl ?_)))))
  refine l_field fo37_4 rfl rfl rfl ?_
  refine l_load_blk hw2 mem0 rfl rfl Tryz.underlying35 rfl rfl rfl ?_
  refine v_len rfl rfl Tryz.underlying35 rfl (by first | exact hw2.ibl mem0 | assumption) ?_
  refine l_lss rfl rfl rfl rfl ?_
  refine l_nil (e_then ?_)
  refine c_keep [0, 5, 6, 48] (.cons rfl (.cons rfl (.cons rfl (.cons rfl .nil)))) ?_
  first | refine c_cond rfl (fun hc1 => ?_) (fun hc1 => ?_) | refine c_condb rfl (fun hc1 => ?_) (fun hc1 => ?_)
  ·skip
   exact absurd hc1 (by simp)
  ·skip
   refine c_exit ?_
   refine e_then_exit ?_
   refine e_then_exit ?_
   refine e_blk_exit ?_
   refine e_then ?_
   refine c_keep [0, 5] (.cons rfl (.cons rfl .nil)) ?_
   refine c_seq (c_seq (c_region (l_assign rfl rfl rfl (l_nil (e_then ?_)))))
   refine c_block ?_
   refine c_loopk (ι := Unit) (fun (z : Unit) => 0) (fun (z : Unit) (w' : World) => St w w.heap.size (fps [As.blk kb 37 [vw, vm, .slice none 0 0, .slice none 0 0, .slice none 0 0, .slice none 0 0]]) ([As.blk kb 37 [vw, vm, .slice none 0 0, .slice none 0 0, .slice none 0 0, .slice none 0 0]]) w' ∧ True) (fun (z : Unit) => [(8, .int .i64 0)]) [0, 5] (()) ?_ (.cons rfl (.cons rfl .nil)) ?_ ?_
   ·exact ⟨hw2, trivial⟩
   ·exact (.cons rfl (by first | rfl | (refine congrArg (Value.int _) ?_; omega)) .nil)
   rintro z w3 ⟨hw3, _⟩
   show RunC P _ _ _ (_ :: _) _
   refine c_seq (c_seq (c_region (l_move rfl rfl rfl (l_move rfl rfl rfl ?_))))
   refine v_len rfl rfl Tryz.underlying35 rfl (by first | exact hw3.ibl mem0 | assumption) ?_
   refine l_lss rfl rfl rfl rfl ?_
   refine l_nil (e_then ?_)
   refine c_keep [0, 5, 8, 73] (.cons rfl (.cons rfl (.cons rfl (.cons rfl .nil)))) ?_
   first | refine c_cond rfl (fun hc2 => ?_) (fun hc2 => ?_) | refine c_condb rfl (fun hc2 => ?_) (fun hc2 => ?_)
   ·skip
    exact absurd hc2 (by simp)
   ·skip
    refine c_exit ?_
    refine e_then_exit ?_
    refine e_then_exit ?_
    refine e_blk_exit ?_
    refine e_then ?_
    refine c_keep [] .nil ?_
    refine c_seq (c_region (l_assign rfl rfl rfl (l_nil (e_then ?_))))
    refine c_ret ?_
    refine e_done1 Tryz.results36 rfl ?_
    refine ⟨_, rfl, ?_⟩
    exact ⟨rfl, St.transS (τ' := [As.blk kb 37 [vw, vm, .slice none 0 0, .slice none 0 0, .slice none 0 0, .slice none 0 0]]) hw3⟩
theorem getD_setB {α : Type} (l : List α) (i k : Nat) (x d : α) (h : i < l.length) : (l.set i x).getD k d = if i = k then x else l.getD k d := by
 by_cases e : i = k
 ·subst e; simp [List.getD, h]
 ·simp [List.getD, List.getElem?_set_ne e, e]
abbrev D0 : Value × List Int := (.bool true, [])
abbrev E0 : Value × Nat × Value := (.bool true, 0, .bool true)
abbrev bw (an : List (Value × List Int)) : Bag := an.map fun p => (p.1, ints .u8 p.2)
theorem bw_split {an : List (Value × List Int)} {i : Nat} (h : i < an.length) : bw an = bw (an.take i) ++ ((an.getD i D0).1, ints .u8 (an.getD i D0).2) :: bw (an.drop (i + 1)) := by
 have e : an.getD i D0 = an[i] := by simp [List.getD, h]
 rw [e]
 have : an = an.take i ++ an[i] :: an.drop (i + 1) := by rw [← List.drop_eq_getElem_cons h, List.take_append_drop]
 have h2 := congrArg (List.map fun p : Value × List Int => (p.1, ints .u8 p.2)) this
 simp only [List.map_append, List.map_cons] at h2
 exact h2
section
variable {w0 w : World} {B : Nat} {M : Nat → Prop} {σ : List As} {an : List (Value × List Int)} {i : Nat} {v : Value} {l : List Int}
theorem bag_pull (hw : St w0 B M (As.bag 5 (bw an) :: σ) w) (h : i < an.length) (hv : (an.getD i D0).1 = v) : St w0 B M (As.ri 5 .u8 v (an.getD i D0).2 :: As.bag 5 (bw (an.take i) ++ bw (an.drop (i + 1))) :: σ) w := by
 subst hv
 rw [bw_split h] at hw
 exact bag_out hw
theorem bag_push (hw : St w0 B M (As.ri 5 .u8 v l :: As.bag 5 (bw (an.take i) ++ bw (an.drop (i + 1))) :: σ) w) (h : i < an.length) : St w0 B M (As.bag 5 (bw (an.set i (v, l))) :: σ) w := by
 have := bag_in hw
 refine this.cast ?_
 rw [List.set_eq_take_append_cons_drop, if_pos h]
 simp [bw]
theorem bag_head (hw : St w0 B M (As.bag 5 (bw (an.drop i)) :: σ) w) (h : i < an.length) (hv : (an.getD i D0).1 = v) (hl : (an.getD i D0).2 = l) : St w0 B M (As.both 5 v (ints .u8 l) v (ints .u8 l) :: As.bag 5 (bw (an.drop (i + 1))) :: σ) w := by
 subst hv hl
 have e : an.getD i D0 = an[i] := by simp [List.getD, h]
 have h2 : bw (an.drop i) = [] ++ ((an.getD i D0).1, ints .u8 (an.getD i D0).2) :: bw (an.drop (i + 1)) := by
  rw [List.drop_eq_getElem_cons h, e]; rfl
 rw [h2] at hw
 exact (bag_out hw).toBoth
end
def Cur (an cur : List (Value × List Int)) (i : Nat) : Prop :=
 cur.length = an.length ∧ cur.map (·.1) = an.map (·.1) ∧ ∀ j, j < an.length → (cur.getD j D0).2.length = (an.getD j D0).2.length ∧ (j < i → (cur.getD j D0).2 = List.replicate (an.getD j D0).2.length (j : Int))
theorem Cur.fst {an cur : List (Value × List Int)} {i : Nat} (h : Cur an cur i) (j : Nat) : (cur.getD j D0).1 = (an.getD j D0).1 := by
 have := congrArg (fun l : List Value => l.getD j (.bool true)) h.2.1
 simp only [List.getD, List.getElem?_map] at this ⊢
 cases h1 : cur[j]? <;> cases h2 : an[j]? <;> simp_all
theorem Cur.next {an cur : List (Value × List Int)} {i : Nat} {l : List Int} (h : Cur an cur i) (hi : i < an.length) (hl : l.length = (an.getD i D0).2.length) (hx : ∀ t, t < l.length → l.getD t 0 = (i : Int)) : Cur an (cur.set i ((an.getD i D0).1, l)) (i + 1) := by
 have hc := h.1
 refine ⟨by simpa using hc, ?_, fun j hj => ?_⟩
 ·rw [List.map_set, h.2.1]
  apply List.ext_getElem?
  intro j
  rw [List.getElem?_set]
  split
  ·rename_i e
   subst e
   simp [List.getD, hi]
  ·rfl
 ·have hlr : l = List.replicate (an.getD i D0).2.length (i : Int) := by
   rw [← hl]
   refine List.ext_getElem (by simp) fun t h1 h2 => ?_
   have := hx t h1
   simpa [List.getD, h1] using this
  rw [getD_setB _ _ _ _ _ (by omega)]
  by_cases e : i = j
  ·subst e
   rw [if_pos rfl]
   exact ⟨hl, fun _ => hlr⟩
  ·rw [if_neg e]
   exact ⟨(h.2.2 j hj).1, fun hji => (h.2.2 j hj).2 (by omega)⟩
def pairOf (j : Nat) (p : Value × Nat × Value) : As := As.both 5 p.1 (ints .u8 (List.replicate p.2.1 (j : Int))) p.2.2 (ints .u8 (List.replicate p.2.1 (j : Int)) ++ [.int .u8 ((j : Int) + 100)] ++ [.int .u8 ((j : Int) + 101)])
theorem pair_iv {w0 w : World} {B : Nat} {M : Nat → Prop} {σ : List As} {gs : List (Value × Nat × Value)} {q n : Nat} {v : Value} (hw : St w0 B M σ w) (hm : As.many (gs.mapIdx pairOf) ∈ σ) (h : q < gs.length) (hv : (gs.getD q E0).1 = v) (hn : (gs.getD q E0).2.1 = n) :
  IV w v (ints .u8 (List.replicate n (q : Int))) ∧ IV w (gs.getD q E0).2.2 (ints .u8 (List.replicate n (q : Int) ++ [(q : Int) + 100, (q : Int) + 101])) := by
 subst hv hn
 have e : gs.getD q E0 = gs[q] := by simp [List.getD, h]
 have h1 : pairOf q gs[q] ∈ gs.mapIdx pairOf := List.mem_iff_getElem.2 ⟨q, by simpa using h, by simp⟩
 have h2 := many_ok hw hm h1
 rw [e]
 refine ⟨h2.1, ?_⟩
 have h3 := h2.2.1.iv
 simpa [ints] using h3
theorem map_at3 {gs : List (Value × Nat × Value)} {i : Nat} (h : i < gs.length) : (gs.map (·.2.2))[((i : Nat) : Int).toNat]? = some (gs.getD i E0).2.2 := by
 rw [Int.toNat_natCast, List.getElem?_map]
 simp [List.getD, h]
theorem gs_next {an : List (Value × List Int)} {gs : List (Value × Nat × Value)} {m : Nat} {g : Value} (h : ∀ j, j < m → (gs.getD j E0).1 = (an.getD j D0).1 ∧ (gs.getD j E0).2.1 = (an.getD j D0).2.length) (hl : gs.length = m) :
  ∀ j, j < m + 1 → ((gs ++ [((an.getD m D0).1, (an.getD m D0).2.length, g)]).getD j E0).1 = (an.getD j D0).1 ∧ ((gs ++ [((an.getD m D0).1, (an.getD m D0).2.length, g)]).getD j E0).2.1 = (an.getD j D0).2.length := fun j hj => by
 by_cases e : j = m
 ·subst e; subst hl; simp [List.getD]
 ·have := h j (by omega)
  simpa [List.getD, List.getElem?_append_left (show j < gs.length by omega)] using this
theorem rep_u {n : Nat} {q : Int} (h : 0 ≤ q ∧ q ≤ 100) : U8 (List.replicate n q) := fun x hx => by rw [(List.mem_replicate.1 hx).2]; omega
theorem rep2_u {n : Nat} {q : Int} (h : 0 ≤ q ∧ q ≤ 100) : U8 (List.replicate n q ++ [q + 100, q + 101]) := fun x hx => by
 simp only [List.mem_append, List.mem_replicate, List.mem_cons, List.not_mem_nil, or_false] at hx
 omega
theorem rep_at {n j : Nat} {q : Int} (h : j < n) : (List.replicate n q).getD j 0 = q := by simp [List.getD, h]
theorem rep2_at {n j : Nat} {q : Int} (h : j < n) : (List.replicate n q ++ [q + 100, q + 101]).getD j 0 = q := by simp [List.getD, List.getElem?_append_left, h]
theorem rep2_at1 {n : Nat} {q : Int} : (List.replicate n q ++ [q + 100, q + 101]).getD (List.replicate n q).length 0 = q + 100 := by simp [List.getD]
theorem rep2_at2 {n : Nat} {q : Int} : (List.replicate n q ++ [q + 100, q + 101]).getD ((List.replicate n q).length + 1) 0 = q + 101 := by simp [List.getD]
theorem closeB (kb : Nat) (vw vm : Value) (an cp : List (Value × List Int)) (hn : an.length ≤ 100) (hL : ∀ i, i < an.length → (an.getD i D0).2.length ≤ 1099511627776) (w : World) (hS : Sep w.heap.size (fps (book kb vw vm an cp)) w (book kb vw vm an cp)) :
  CallsV P 34 [.pointer (some ⟨kb, 0, none⟩)] w fun r w' => r = .bool true ∧ Trans w w' (book kb vw vm an cp) [As.blk kb 37 [vw, vm, .slice none 0 0, .slice none 0 0, .slice none 0 0, .slice none 0 0]] := by
 refine enterW Tryz.func34 rfl Tryz.ntmps34 rfl ?_
 have hw0 := St.startS hS
 have hw0 : St w w.heap.size (fps (book kb vw vm an cp)) [As.blk kb 37 [vw, vm, .slice none 0 0, .slice none 0 0, .slice none 0 0, .slice none 0 0], As.ro 24 vw (an.map (·.1)), As.ro 24 vm (cp.map (·.1)), As.bag 5 (an.map fun p => (p.1, ints .u8 p.2)), As.bag 5 (cp.map fun p => (p.1, ints .u8 p.2))] w := hw0
 have hnil := IV.nil w
 refine c_seq (c_region (l_assign rfl rfl rfl (l_nil (e_then ?_))))
 refine c_keep [0] (.cons rfl .nil) ?_
 refine c_seq (c_seq (c_region (l_assign rfl rfl rfl (l_nil (e_then ?_)))))
 refine c_block ?_
 refine c_loopk (ι := Nat × List (Value × List Int)) (fun (z0 : Nat × List (Value × List Int)) => match z0 with | ⟨i, cur⟩ => an.length - i) (fun (z0 : Nat × List (Value × List Int)) (w' : World) => match z0 with | ⟨i, cur⟩ => St w w.heap.size (fps (book kb vw vm an cp)) ([As.bag 5 (bw cur), As.blk kb 37 [vw, vm, .slice none 0 0, .slice none 0 0, .slice none 0 0, .slice none 0 0], As.ro 24 vw (an.map (·.1)), As.ro 24 vm (cp.map (·.1)), As.bag 5 (cp.map fun p => (p.1, ints .u8 p.2))]) w' ∧ i ≤ an.length ∧ Cur an cur i) (fun (z0 : Nat × List (Value × List Int)) => match z0 with | ⟨i, cur⟩ => [(3, .int .i64 (i : Int))]) [0] (0, an) ?_ (.cons rfl .nil) ?_ ?_
 ·exact ⟨hw0.front3, by omega, rfl, rfl, fun j hj => ⟨rfl, fun h => by omega⟩⟩
 ·exact (.cons rfl (by first | rfl | (refine congrArg (Value.int _) ?_; omega)) .nil)
 rintro ⟨i, cur⟩ w1 ⟨hw1, hi, hcur⟩
 show RunC P _ _ _ (_ :: _) _
 refine c_seq (c_seq (c_region (l_move rfl rfl rfl (l_move rfl rfl rfl (l_nilCheck rfl rfl rfl ?_)))))
 refine l_field fo37_0 rfl rfl rfl ?_
 refine l_load_blk hw1 mem1 rfl rfl Tryz.underlying33 rfl rfl rfl ?_
 refine v_len rfl rfl Tryz.underlying33 rfl (by first | exact hw1.ibl mem1 | exact hw1.io mem2 | exact hw1.io mem3 | assumption) ?_
 refine l_lss rfl rfl rfl rfl ?_
 refine l_nil (e_then ?_)
 refine c_keep [0, 3, 17] (.cons rfl (.cons rfl (.cons rfl .nil))) ?_
 first | refine c_cond rfl (fun hc0 => ?_) (fun hc0 => ?_) | refine c_condb rfl (fun hc0 => ?_) (fun hc0 => ?_)
 ·skip
  refine c_skip (e_then ?_)
  refine c_keep [0, 3] (.cons rfl (.cons rfl .nil)) ?_
  refine c_seq (c_block (c_seq (c_region ?_)))
  have hi1 : i < an.length := by simp at hc0; omega
  have hlen := hL i hi1
  have hw2 := bag_pull (i := i) hw1 (by rw [hcur.1]; exact hi1) (hcur.fst i)
  try clear hw1
  refine l_assign rfl rfl rfl (l_nil (e_then (c_block ?_)))
  refine c_loopk (ι := Nat × List Int) (fun (z0 : Nat × List Int) => match z0 with | ⟨j, l⟩ => (an.getD i D0).2.length - j) (fun (z0 : Nat × List Int) (w' : World) => match z0 with | ⟨j, l⟩ => St w w.heap.size (fps (book kb vw vm an cp)) ([As.ri 5 .u8 (an.getD i D0).1 l, As.bag 5 (bw (cur.take i) ++ bw (cur.drop (i + 1))), As.blk kb 37 [vw, vm, .slice none 0 0, .slice none 0 0, .slice none 0 0, .slice none 0 0], As.ro 24 vw (an.map (·.1)), As.ro 24 vm (cp.map (·.1)), As.bag 5 (cp.map fun p => (p.1, ints .u8 p.2))]) w' ∧ j ≤ l.length ∧ l.length = (an.getD i D0).2.length ∧ ∀ t, t < j → l.getD t 0 = (i : Int)) (fun (z0 : Nat × List Int) => match z0 with | ⟨j, l⟩ => [(4, .int .i64 (j : Int))]) [0, 3] (0, (cur.getD i D0).2) ?_ (.cons rfl (.cons rfl .nil)) ?_ ?_
  ·exact ⟨hw2, by omega, (hcur.2.2 i hi1).1, fun t ht => by omega⟩
  ·exact (.cons rfl (by first | rfl | (refine congrArg (Value.int _) ?_; omega)) .nil)
  rintro ⟨j, l⟩ w3 ⟨hw3, hj, hll, hlt⟩
  show RunC P _ _ _ (_ :: _) _
  refine c_seq (c_seq (c_region (l_move rfl rfl rfl (l_move rfl rfl rfl (l_nilCheck rfl rfl rfl ?_)))))
  refine l_field fo37_0 rfl rfl rfl ?_
  refine l_load_blk hw3 mem2 rfl rfl Tryz.underlying33 rfl rfl rfl ?_
  refine l_move rfl rfl rfl ?_
  refine v_get rfl rfl rfl rfl Tryz.underlying33 tz24 Tryz.underlying24 rfl rfl rfl (by first | exact hw3.io mem0 | exact hw3.ibl mem2 | exact hw3.io mem3 | exact hw3.io mem4 | assumption) (by first | omega | (simp; omega)) (map_at hi1) ?_ rfl
  refine v_leni rfl rfl Tryz.underlying24 rfl (by first | exact hw3.io mem0 | exact hw3.ibl mem2 | exact hw3.io mem3 | exact hw3.io mem4 | assumption) ?_
  refine l_lss rfl rfl rfl rfl ?_
  refine l_nil (e_then ?_)
  refine c_keep [0, 3, 4, 29] (.cons rfl (.cons rfl (.cons rfl (.cons rfl .nil)))) ?_
  first | refine c_cond rfl (fun hc1 => ?_) (fun hc1 => ?_) | refine c_condb rfl (fun hc1 => ?_) (fun hc1 => ?_)
  ·skip
   refine c_skip (e_then ?_)
   refine c_keep [0, 3, 4] (.cons rfl (.cons rfl (.cons rfl .nil))) ?_
   refine c_seq (c_block (c_region (l_move rfl rfl rfl (l_nilCheck rfl rfl rfl (l_field fo37_0 rfl rfl rfl ?_)))))
   refine l_load_blk hw3 mem2 rfl rfl Tryz.underlying33 rfl rfl rfl ?_
   refine l_move rfl rfl rfl ?_
   refine v_get rfl rfl rfl rfl Tryz.underlying33 tz24 Tryz.underlying24 rfl rfl rfl (by first | exact hw3.io mem0 | exact hw3.ibl mem2 | exact hw3.io mem3 | exact hw3.io mem4 | assumption) (by first | omega | (simp; omega)) (map_at hi1) ?_ rfl
   refine l_move rfl rfl rfl (l_move rfl rfl rfl ?_)
   refine l_conv rfl rfl Tryz.underlying3 Tryz.underlying5 rfl (w_u8 (by omega)) ?_
   refine v_addrn (j := j) rfl rfl Tryz.underlying24 tz5 rfl rfl (by first | exact hw3.io mem0 | exact hw3.ibl mem2 | exact hw3.io mem3 | exact hw3.io mem4 | assumption) (by omega) (by first | omega | (simp; done) | (simp; omega)) (fun A7_10 c7_10 hA7_10 => ?_)
   refine v_storei hw3 .head hA7_10 rfl tz5 rfl rfl (by first | omega | (simp; done) | (simp; omega)) (fun w4 hw4 => ?_)
   try clear hw3
   refine l_nil ?_
   refine e_blk ?_
   refine e_then ?_
   refine c_keep [0, 3, 4] (.cons rfl (.cons rfl (.cons rfl .nil))) ?_
   refine c_region (l_move rfl rfl rfl ?_)
   refine l_add rfl rfl rfl rfl (w_i64 (by omega)) ?_
   refine l_assign rfl rfl rfl (l_nil ?_)
   refine e_againk (i := (j, l)) (j + 1, l.set j (i : Int)) ?_ ?_ (.cons rfl (.cons rfl .nil)) ?_
   ·show (an.getD i D0).2.length - (j + 1) < (an.getD i D0).2.length - j
    omega
   ·refine ⟨hw4, by simp; omega, by simpa using hll, fun t ht => ?_⟩
    rw [getD_setB _ _ _ _ _ (by omega)]
    split
    ·rfl
    ·exact hlt t (by omega)
   ·exact (.cons rfl (by first | rfl | (refine congrArg (Value.int _) ?_; omega)) .nil)
  ·skip
   refine c_exit ?_
   refine e_then_exit ?_
   refine e_then_exit ?_
   refine e_blk_exit ?_
   refine e_blk ?_
   refine e_then ?_
   refine c_keep [0, 3] (.cons rfl (.cons rfl .nil)) ?_
   refine c_region ?_
   have hw5 := bag_push hw3 (by rw [hcur.1]; exact hi1)
   try clear hw3
   refine l_move rfl rfl rfl ?_
   refine l_add rfl rfl rfl rfl (w_i64 (by omega)) ?_
   refine l_assign rfl rfl rfl (l_nil ?_)
   refine e_againk (i := (i, cur)) (i + 1, cur.set i ((an.getD i D0).1, l)) ?_ ?_ (.cons rfl .nil) ?_
   ·first | omega | (simp; omega)
   ·exact ⟨hw5, by omega, hcur.next hi1 hll (fun t ht => hlt t (by omega))⟩
   ·exact (.cons rfl (by first | rfl | (refine congrArg (Value.int _) ?_; omega)) .nil)
 ·skip
  refine c_exit ?_
  refine e_then_exit ?_
  refine e_then_exit ?_
  refine e_blk_exit ?_
  refine e_then ?_
  refine c_keep [0] (.cons rfl .nil) ?_
  refine c_seq (c_region (l_assign rfl rfl rfl (l_nil (e_then (c_seq ?_)))))
  refine c_seq (c_region (l_assign rfl rfl rfl (l_nil (e_then (c_block ?_)))))
  refine c_loopk (ι := Nat × Value × List (Value × Nat × Value)) (fun (z0 : Nat × Value × List (Value × Nat × Value)) => match z0 with | ⟨m, vg, gs⟩ => an.length - m) (fun (z0 : Nat × Value × List (Value × Nat × Value)) (w' : World) => match z0 with | ⟨m, vg, gs⟩ => St w w.heap.size (fps (book kb vw vm an cp)) ([As.ro 24 vg (gs.map (·.2.2)), As.many (gs.mapIdx pairOf), As.bag 5 (bw (cur.drop m)), As.blk kb 37 [vw, vm, .slice none 0 0, .slice none 0 0, .slice none 0 0, .slice none 0 0], As.ro 24 vw (an.map (·.1)), As.ro 24 vm (cp.map (·.1)), As.bag 5 (cp.map fun p => (p.1, ints .u8 p.2))]) w' ∧ m ≤ an.length ∧ gs.length = m ∧ ∀ j, j < m → (gs.getD j E0).1 = (an.getD j D0).1 ∧ (gs.getD j E0).2.1 = (an.getD j D0).2.length) (fun (z0 : Nat × Value × List (Value × Nat × Value)) => match z0 with | ⟨m, vg, gs⟩ => [(5, vg), (6, .int .i64 (m : Int))]) [0] (0, .slice none 0 0, []) ?_ (.cons rfl .nil) ?_ ?_
  ·exact ⟨(many_nil hw1).nil 24, by omega, rfl, fun j hj => by omega⟩
  ·exact (.cons rfl (by first | rfl | (refine congrArg (Value.int _) ?_; omega)) (.cons rfl (by first | rfl | (refine congrArg (Value.int _) ?_; omega)) .nil))
  rintro ⟨m, vg, gs⟩ w6 ⟨hw6, hm, hgl, hgs⟩
  show RunC P _ _ _ (_ :: _) _
  refine c_seq (c_seq (c_region (l_move rfl rfl rfl (l_move rfl rfl rfl (l_nilCheck rfl rfl rfl ?_)))))
  refine l_field fo37_0 rfl rfl rfl ?_
  refine l_load_blk hw6 mem3 rfl rfl Tryz.underlying33 rfl rfl rfl ?_
  refine v_len rfl rfl Tryz.underlying33 rfl (by first | exact hw6.io mem0 | exact hw6.ibl mem3 | exact hw6.io mem4 | exact hw6.io mem5 | assumption) ?_
  refine l_lss rfl rfl rfl rfl ?_
  refine l_nil (e_then ?_)
  refine c_keep [0, 5, 6, 49] (.cons rfl (.cons rfl (.cons rfl (.cons rfl .nil)))) ?_
  first | refine c_cond rfl (fun hc2 => ?_) (fun hc2 => ?_) | refine c_condb rfl (fun hc2 => ?_) (fun hc2 => ?_)
  ·skip
   refine c_skip (e_then ?_)
   refine c_keep [0, 5, 6] (.cons rfl (.cons rfl (.cons rfl .nil))) ?_
   refine c_seq (c_block (c_seq (c_region ?_)))
   have hm1 : m < an.length := by simp at hc2; omega
   have hcm := hcur.2.2 m hm1
   have hlm := hL m hm1
   refine l_move rfl rfl rfl (l_nilCheck rfl rfl rfl (l_field fo37_0 rfl rfl rfl ?_))
   refine l_load_blk hw6 mem3 rfl rfl Tryz.underlying33 rfl rfl rfl ?_
   refine l_move rfl rfl rfl ?_
   refine v_get rfl rfl rfl rfl Tryz.underlying33 tz24 Tryz.underlying24 rfl rfl rfl (by first | exact hw6.io mem0 | exact hw6.ibl mem3 | exact hw6.io mem4 | exact hw6.io mem5 | assumption) (by first | omega | (simp; omega)) (map_at hm1) ?_ rfl
   refine l_move rfl rfl rfl ?_
   refine l_add rfl rfl rfl rfl (w_i64 (by omega)) ?_
   refine l_conv rfl rfl Tryz.underlying3 Tryz.underlying5 rfl (w_u8 (by omega)) ?_
   have hw7 := bag_head hw6.front2 (by rw [hcur.1]; exact hm1) (hcur.fst m) ((hcur.2.2 m hm1).2 (by omega))
   try clear hw6
   refine v_lit hw7 rfl rfl Tryz.underlying24 ti5 rfl (.cons rfl (by first | rfl | assumption) .nil) rfl rfl rfl (fun b12_10 w8 hw8 => ?_)
   try clear hw7
   refine v_append_both hw8.forget rfl rfl Tryz.underlying24 ti5 rfl rfl rfl (hw8.ibl mem0) (by simp [Value.oneCell']) (by simp only [List.length_append, List.length_map, List.length_replicate, List.length_cons, List.length_nil]; omega) (by simp only [List.length_append, List.length_map, List.length_replicate, List.length_cons, List.length_nil]; omega) (fun g1 w9 hw9 => ?_)
   try clear hw8
   refine l_assign rfl rfl rfl (l_nil (e_then ?_))
   refine c_keep [0, 5, 6, 7] (.cons rfl (.cons rfl (.cons rfl (.cons rfl .nil)))) ?_
   refine c_region (l_move rfl rfl rfl (l_move rfl rfl rfl (l_move rfl rfl rfl ?_)))
   refine l_add rfl rfl rfl rfl (w_i64 (by omega)) ?_
   refine l_conv rfl rfl Tryz.underlying3 Tryz.underlying5 rfl (w_u8 (by omega)) ?_
   refine v_lit hw9 rfl rfl Tryz.underlying24 ti5 rfl (.cons rfl (by first | rfl | assumption) .nil) rfl rfl rfl (fun b13_5 w10 hw10 => ?_)
   try clear hw9
   refine v_append_both hw10.forget rfl rfl Tryz.underlying24 ti5 rfl rfl rfl (hw10.ibl mem0) (by simp [Value.oneCell']) (by simp only [List.length_append, List.length_map, List.length_replicate, List.length_cons, List.length_nil]; omega) (by simp only [List.length_append, List.length_map, List.length_replicate, List.length_cons, List.length_nil]; omega) (fun g2 w11 hw11 => ?_)
   try clear hw10
   have hw12 := St.front2 hw11
   try clear hw11
   have hg2 := slice_one (both_iv' hw12 mem1)
   refine v_lit hw12 rfl rfl Tryz.underlying33 ti24 rfl (.cons rfl (by first | rfl | assumption) .nil) rfl rfl rfl (fun b13_7 w13 hw13 => ?_)
   try clear hw12
   refine v_push hw13 rfl rfl Tryz.underlying33 ti24 rfl rfl rfl rfl (by first | (simp [Value.oneCell']; done) | (intro u hu; rw [List.mem_singleton.1 hu]; assumption)) (by first | (simp; done) | (simp; omega)) (by first | (simp; done) | (simp; omega)) (fun v13_8 w14 hw14 => ?_)
   try clear hw13
   refine l_assign rfl rfl rfl (l_nil ?_)
   refine e_blk ?_
   refine e_then ?_
   refine c_keep [0, 5, 6] (.cons rfl (.cons rfl (.cons rfl .nil))) ?_
   refine c_region ?_
   have hw15 := (many_in (hw14.front3.front2)).front1
   try clear hw14
   refine l_move rfl rfl rfl ?_
   refine l_add rfl rfl rfl rfl (w_i64 (by omega)) ?_
   refine l_assign rfl rfl rfl (l_nil ?_)
   refine e_againk (i := (m, vg, gs)) (m + 1, v13_8, gs ++ [((an.getD m D0).1, (an.getD m D0).2.length, g2)]) ?_ ?_ (.cons rfl .nil) ?_
   ·first | omega | (simp; omega)
   ·exact ⟨hw15.cast (by rw [List.mapIdx_concat, hgl]; simp [pairOf]), by omega, by simp [hgl], gs_next hgs hgl⟩
   ·exact (.cons rfl (by first | rfl | (refine congrArg (Value.int _) ?_; omega)) (.cons rfl (by first | rfl | (refine congrArg (Value.int _) ?_; omega)) .nil))
  ·skip
   refine c_exit ?_
   refine e_then_exit ?_
   refine e_then_exit ?_
   refine e_blk_exit ?_
   refine e_then ?_
   refine c_keep [0, 5] (.cons rfl (.cons rfl .nil)) ?_
   refine c_seq (c_seq (c_region (l_assign rfl rfl rfl (l_nil (e_then ?_)))))
   refine c_block ?_
   refine c_loopk (ι := Nat) (fun (q : Nat) => gs.length - q) (fun (q : Nat) (w' : World) => St w w.heap.size (fps (book kb vw vm an cp)) ([As.ro 24 vg (gs.map (·.2.2)), As.many (gs.mapIdx pairOf), As.bag 5 (bw (cur.drop m)), As.blk kb 37 [vw, vm, .slice none 0 0, .slice none 0 0, .slice none 0 0, .slice none 0 0], As.ro 24 vw (an.map (·.1)), As.ro 24 vm (cp.map (·.1)), As.bag 5 (cp.map fun p => (p.1, ints .u8 p.2))]) w' ∧ q ≤ gs.length) (fun (q : Nat) => [(8, .int .i64 (q : Int))]) [0, 5] (0) ?_ (.cons rfl (.cons rfl .nil)) ?_ ?_
   ·exact ⟨hw6, by omega⟩
   ·exact (.cons rfl (by first | rfl | (refine congrArg (Value.int _) ?_; omega)) .nil)
   rintro q w16 ⟨hw16, hq⟩
   show RunC P _ _ _ (_ :: _) _
   refine c_seq (c_seq (c_region (l_move rfl rfl rfl (l_move rfl rfl rfl ?_))))
   refine v_len rfl rfl Tryz.underlying33 rfl (by first | exact hw16.io mem0 | exact hw16.ibl mem3 | exact hw16.io mem4 | exact hw16.io mem5 | assumption) ?_
   refine l_lss rfl rfl rfl rfl ?_
   refine l_nil (e_then ?_)
   refine c_keep [0, 5, 8, 76] (.cons rfl (.cons rfl (.cons rfl (.cons rfl .nil)))) ?_
   first | refine c_cond rfl (fun hc3 => ?_) (fun hc3 => ?_) | refine c_condb rfl (fun hc3 => ?_) (fun hc3 => ?_)
   ·skip
    refine c_skip (e_then ?_)
    refine c_keep [0, 5, 8] (.cons rfl (.cons rfl (.cons rfl .nil))) ?_
    refine c_seq (c_block (c_seq (c_region ?_)))
    have hq1 : q < gs.length := by simpa using hc3
    have hlq := hL q (by omega)
    have hpq := pair_iv hw16 mem1 hq1 (hgs q (by omega)).1 (hgs q (by omega)).2
    obtain ⟨hA, hB⟩ := hpq
    have hUA := rep_u (n := (an.getD q D0).2.length) (q := (q : Int)) (by omega)
    have hUB := rep2_u (n := (an.getD q D0).2.length) (q := (q : Int)) (by omega)
    have hlA : (List.replicate (an.getD q D0).2.length (q : Int)).length = (an.getD q D0).2.length := by simp
    have hlB : (List.replicate (an.getD q D0).2.length (q : Int) ++ [(q : Int) + 100, (q : Int) + 101]).length = (an.getD q D0).2.length + 2 := by simp
    refine l_move rfl rfl rfl (l_nilCheck rfl rfl rfl (l_field fo37_0 rfl rfl rfl ?_))
    refine l_load_blk hw16 mem3 rfl rfl Tryz.underlying33 rfl rfl rfl ?_
    refine l_move rfl rfl rfl ?_
    refine v_get rfl rfl rfl rfl Tryz.underlying33 tz24 Tryz.underlying24 rfl rfl rfl (by first | exact hw16.io mem0 | exact hw16.ibl mem3 | exact hw16.io mem4 | exact hw16.io mem5 | assumption) (by first | omega | (simp; omega)) (map_at (show q < an.length by omega)) ?_ rfl
    refine v_leni rfl rfl Tryz.underlying24 rfl (by first | exact hw16.io mem0 | exact hw16.ibl mem3 | exact hw16.io mem4 | exact hw16.io mem5 | assumption) ?_
    refine l_assign rfl rfl rfl (l_nil (e_then ?_))
    refine c_keep [0, 5, 8, 9] (.cons rfl (.cons rfl (.cons rfl (.cons rfl .nil)))) ?_
    refine c_seq (c_seq (c_region (l_assign rfl rfl rfl (l_nil (e_then ?_)))))
    refine c_block ?_
    refine c_loopk (ι := Nat) (fun (j : Nat) => (an.getD q D0).2.length - j) (fun (j : Nat) (w' : World) => St w w.heap.size (fps (book kb vw vm an cp)) ([As.ro 24 vg (gs.map (·.2.2)), As.many (gs.mapIdx pairOf), As.bag 5 (bw (cur.drop m)), As.blk kb 37 [vw, vm, .slice none 0 0, .slice none 0 0, .slice none 0 0, .slice none 0 0], As.ro 24 vw (an.map (·.1)), As.ro 24 vm (cp.map (·.1)), As.bag 5 (cp.map fun p => (p.1, ints .u8 p.2))]) w' ∧ j ≤ (an.getD q D0).2.length) (fun (j : Nat) => [(10, .int .i64 (j : Int))]) [0, 5, 8, 9] (0) ?_ (.cons rfl (.cons rfl (.cons rfl (.cons rfl .nil)))) ?_ ?_
    ·exact ⟨hw16, by omega⟩
    ·exact (.cons rfl (by first | rfl | (refine congrArg (Value.int _) ?_; omega)) .nil)
    rintro j w17 ⟨hw17, hj⟩
    show RunC P _ _ _ (_ :: _) _
    refine c_seq (c_seq (c_region (l_move rfl rfl rfl (l_move rfl rfl rfl ?_))))
    refine l_lss rfl rfl rfl rfl ?_
    refine l_nil (e_then ?_)
    refine c_keep [0, 5, 8, 9, 10, 89] (.cons rfl (.cons rfl (.cons rfl (.cons rfl (.cons rfl (.cons rfl .nil)))))) ?_
    first | refine c_cond rfl (fun hc4 => ?_) (fun hc4 => ?_) | refine c_condb rfl (fun hc4 => ?_) (fun hc4 => ?_)
    ·skip
     refine c_skip (e_then ?_)
     refine c_keep [0, 5, 8, 9, 10] (.cons rfl (.cons rfl (.cons rfl (.cons rfl (.cons rfl .nil))))) ?_
     refine c_seq (c_block (c_seq (c_region ?_)))
     clear hA hB hUA hUB hlA hlB
     have hpq := pair_iv hw17 mem1 hq1 (hgs q (by omega)).1 (hgs q (by omega)).2
     obtain ⟨hA, hB⟩ := hpq
     have hUA := rep_u (n := (an.getD q D0).2.length) (q := (q : Int)) (by omega)
     have hUB := rep2_u (n := (an.getD q D0).2.length) (q := (q : Int)) (by omega)
     have hlA : (List.replicate (an.getD q D0).2.length (q : Int)).length = (an.getD q D0).2.length := by simp
     have hlB : (List.replicate (an.getD q D0).2.length (q : Int) ++ [(q : Int) + 100, (q : Int) + 101]).length = (an.getD q D0).2.length + 2 := by simp
     have hjq : j < (an.getD q D0).2.length := by omega
     refine l_move rfl rfl rfl (l_nilCheck rfl rfl rfl (l_field fo37_0 rfl rfl rfl ?_))
     refine l_load_blk hw17 mem3 rfl rfl Tryz.underlying33 rfl rfl rfl ?_
     refine l_move rfl rfl rfl ?_
     refine v_get rfl rfl rfl rfl Tryz.underlying33 tz24 Tryz.underlying24 rfl rfl rfl (by first | exact hw17.io mem0 | exact hw17.ibl mem3 | exact hw17.io mem4 | exact hw17.io mem5 | assumption) (by first | omega | (simp; omega)) (map_at (show q < an.length by omega)) ?_ rfl
     refine l_move rfl rfl rfl ?_
     refine v_getr (j := j) rfl rfl rfl rfl Tryz.underlying24 tz5 Tryz.underlying5 rfl rfl (by first | exact hw17.io mem0 | exact hw17.ibl mem3 | exact hw17.io mem4 | exact hw17.io mem5 | assumption) (by assumption) rfl (by omega) (by first | omega | (simp; done) | (simp; omega)) (fun hb21_8 => ?_)
     refine l_move rfl rfl rfl ?_
     refine l_conv rfl rfl Tryz.underlying3 Tryz.underlying5 rfl (w_u8 (by omega)) ?_
     refine l_neq rfl rfl rfl rfl ?_
     refine l_turn (s := 104) (v' := .bool false) rfl (by rw [rep_at hjq]; simp) ?_
     refine l_move rfl rfl rfl (l_move rfl rfl rfl (l_move rfl rfl rfl ?_))
     refine v_get rfl rfl rfl rfl Tryz.underlying33 tz24 Tryz.underlying24 rfl rfl rfl (by first | exact hw17.io mem0 | exact hw17.ibl mem3 | exact hw17.io mem4 | exact hw17.io mem5 | assumption) (by first | omega | (simp; omega)) (map_at3 hq1) ?_ rfl
     refine l_move rfl rfl rfl ?_
     refine v_getr (j := j) rfl rfl rfl rfl Tryz.underlying24 tz5 Tryz.underlying5 rfl rfl (by first | exact hw17.io mem0 | exact hw17.ibl mem3 | exact hw17.io mem4 | exact hw17.io mem5 | assumption) (by assumption) rfl (by omega) (by first | omega | (simp; done) | (simp; omega)) (fun hb21_19 => ?_)
     refine l_move rfl rfl rfl ?_
     refine l_conv rfl rfl Tryz.underlying3 Tryz.underlying5 rfl (w_u8 (by omega)) ?_
     refine l_neq rfl rfl rfl rfl ?_
     refine l_turn (s := 115) (v' := .bool false) rfl (by rw [rep2_at hjq]; simp) ?_
     refine l_pick_f rfl rfl rfl rfl ?_
     refine l_nil (e_then ?_)
     refine c_keep [0, 5, 8, 9, 10, 116] (.cons rfl (.cons rfl (.cons rfl (.cons rfl (.cons rfl (.cons rfl .nil)))))) ?_
     refine c_cond_f rfl rfl ?_
     refine c_skip ?_
     refine e_blk ?_
     refine e_then ?_
     refine c_keep [0, 5, 8, 9, 10] (.cons rfl (.cons rfl (.cons rfl (.cons rfl (.cons rfl .nil))))) ?_
     refine c_region (l_move rfl rfl rfl ?_)
     refine l_add rfl rfl rfl rfl (w_i64 (by omega)) ?_
     refine l_assign rfl rfl rfl (l_nil ?_)
     refine e_againk (i := (j)) (j + 1) ?_ ?_ (.cons rfl (.cons rfl (.cons rfl (.cons rfl .nil)))) ?_
     ·show (an.getD q D0).2.length - (j + 1) < (an.getD q D0).2.length - j
      omega
     ·exact ⟨hw17, by omega⟩
     ·exact (.cons rfl (by first | rfl | (refine congrArg (Value.int _) ?_; omega)) .nil)
    ·skip
     refine c_exit ?_
     refine e_then_exit ?_
     refine e_then_exit ?_
     refine e_blk_exit ?_
     refine e_then ?_
     refine c_keep [0, 5, 8, 9] (.cons rfl (.cons rfl (.cons rfl (.cons rfl .nil)))) ?_
     refine c_seq (c_region ?_)
     clear hA hB hUA hUB hlA hlB
     have hpq := pair_iv hw17 mem1 hq1 (hgs q (by omega)).1 (hgs q (by omega)).2
     obtain ⟨hA, hB⟩ := hpq
     have hUA := rep_u (n := (an.getD q D0).2.length) (q := (q : Int)) (by omega)
     have hUB := rep2_u (n := (an.getD q D0).2.length) (q := (q : Int)) (by omega)
     have hlA : (List.replicate (an.getD q D0).2.length (q : Int)).length = (an.getD q D0).2.length := by simp
     have hlB : (List.replicate (an.getD q D0).2.length (q : Int) ++ [(q : Int) + 100, (q : Int) + 101]).length = (an.getD q D0).2.length + 2 := by simp
     refine l_move rfl rfl rfl (l_move rfl rfl rfl ?_)
     refine v_get rfl rfl rfl rfl Tryz.underlying33 tz24 Tryz.underlying24 rfl rfl rfl (by first | exact hw17.io mem0 | exact hw17.ibl mem3 | exact hw17.io mem4 | exact hw17.io mem5 | assumption) (by first | omega | (simp; omega)) (map_at3 hq1) ?_ rfl
     refine l_move rfl rfl rfl ?_
     refine v_getr (j := (List.replicate (an.getD q D0).2.length (q : Int)).length) rfl rfl rfl rfl Tryz.underlying24 tz5 Tryz.underlying5 rfl rfl (by first | exact hw17.io mem0 | exact hw17.ibl mem3 | exact hw17.io mem4 | exact hw17.io mem5 | assumption) (by assumption) rfl (by omega) (by first | omega | (simp; done) | (simp; omega)) (fun hb23_5 => ?_)
     refine l_move rfl rfl rfl ?_
     refine l_add rfl rfl rfl rfl (w_i64 (by omega)) ?_
     refine l_conv rfl rfl Tryz.underlying3 Tryz.underlying5 rfl (w_u8 (by omega)) ?_
     refine l_neq rfl rfl rfl rfl ?_
     refine l_turn (s := 127) (v' := .bool false) rfl (by rw [rep2_at1]; simp) ?_
     refine l_move rfl rfl rfl (l_move rfl rfl rfl (l_move rfl rfl rfl ?_))
     refine v_get rfl rfl rfl rfl Tryz.underlying33 tz24 Tryz.underlying24 rfl rfl rfl (by first | exact hw17.io mem0 | exact hw17.ibl mem3 | exact hw17.io mem4 | exact hw17.io mem5 | assumption) (by first | omega | (simp; omega)) (map_at3 hq1) ?_ rfl
     refine l_move rfl rfl rfl ?_
     refine l_add rfl rfl rfl rfl (w_i64 (by omega)) ?_
     refine v_getr (j := (List.replicate (an.getD q D0).2.length (q : Int)).length + 1) rfl rfl rfl rfl Tryz.underlying24 tz5 Tryz.underlying5 rfl rfl (by first | exact hw17.io mem0 | exact hw17.ibl mem3 | exact hw17.io mem4 | exact hw17.io mem5 | assumption) (by assumption) rfl (by omega) (by first | omega | (simp; done) | (simp; omega)) (fun hb23_18 => ?_)
     refine l_move rfl rfl rfl ?_
     refine l_add rfl rfl rfl rfl (w_i64 (by omega)) ?_
     refine l_conv rfl rfl Tryz.underlying3 Tryz.underlying5 rfl (w_u8 (by omega)) ?_
     refine l_neq rfl rfl rfl rfl ?_
     refine l_turn (s := 140) (v' := .bool false) rfl (by rw [rep2_at2]; simp) ?_
     refine l_pick_f rfl rfl rfl rfl ?_
     refine l_nil (e_then ?_)
     refine c_keep [0, 5, 8, 141] (.cons rfl (.cons rfl (.cons rfl (.cons rfl .nil)))) ?_
     refine c_cond_f rfl rfl ?_
     refine c_skip ?_
     refine e_blk ?_
     refine e_then ?_
     refine c_keep [0, 5, 8] (.cons rfl (.cons rfl (.cons rfl .nil))) ?_
     refine c_region (l_move rfl rfl rfl ?_)
     refine l_add rfl rfl rfl rfl (w_i64 (by omega)) ?_
     refine l_assign rfl rfl rfl (l_nil ?_)
     refine e_againk (i := (q)) (q + 1) ?_ ?_ (.cons rfl (.cons rfl .nil)) ?_
     ·first | omega | (simp; omega)
     ·exact ⟨hw17, by omega⟩
     ·exact (.cons rfl (by first | rfl | (refine congrArg (Value.int _) ?_; omega)) .nil)
   ·skip
    refine c_exit ?_
    refine e_then_exit ?_
    refine e_then_exit ?_
    refine e_blk_exit ?_
    refine e_then ?_
    refine c_keep [] .nil ?_
    refine c_seq (c_region (l_assign rfl rfl rfl (l_nil (e_then ?_))))
    refine c_ret ?_
    refine e_done1 Tryz.results34 rfl ?_
    refine ⟨_, rfl, ?_⟩
    have hw18 := St.del (.tail (.tail (.tail (.tail (.tail (.tail .head)))))) hw16
    try clear hw16
    have hw19 := St.del (.tail (.tail (.tail (.tail (.tail .head))))) hw18
    try clear hw18
    have hw20 := St.del (.tail (.tail (.tail (.tail .head)))) hw19
    try clear hw19
    have hw21 := St.del (.tail (.tail .head)) hw20
    try clear hw20
    have hw22 := St.del (.tail .head) hw21
    try clear hw21
    have hw23 := St.del .head hw22
    try clear hw22
    exact ⟨rfl, St.transS (τ' := [As.blk kb 37 [vw, vm, .slice none 0 0, .slice none 0 0, .slice none 0 0, .slice none 0 0]]) hw23⟩
theorem bookClose (kb : Nat) (vw vm : Value) (an cp : List (Value × List Int)) (hn : an.length ≤ 100) (hc : cp.length = an.length) (hsame : ∀ i, i < an.length → (cp.getD i (.bool true, [])).2 = (an.getD i (.bool true, [])).2) (hU : ∀ i, i < an.length → U8 (an.getD i (.bool true, [])).2) (hL : ∀ i, i < an.length → (an.getD i (.bool true, [])).2.length ≤ 1099511627776) (w : World) (hS : Sep w.heap.size (fps (book kb vw vm an cp)) w (book kb vw vm an cp)) :
  CallsV P 12 [.pointer (some ⟨kb, 0, none⟩)] w fun r w' => r = .bool true ∧ Trans w w' (book kb vw vm an cp) [] := by
 refine enterW Tryz.func12 rfl Tryz.ntmps12 rfl ?_
 have hw0 := St.startS hS
 have hw0 : St w w.heap.size (fps (book kb vw vm an cp)) [As.blk kb 37 [vw, vm, .slice none 0 0, .slice none 0 0, .slice none 0 0, .slice none 0 0], As.ro 24 vw (an.map (·.1)), As.ro 24 vm (cp.map (·.1)), As.bag 5 (an.map fun p => (p.1, ints .u8 p.2)), As.bag 5 (cp.map fun p => (p.1, ints .u8 p.2))] w := hw0
 refine c_seq (c_region (l_assign rfl rfl rfl (l_nil (e_then ?_))))
 refine c_keep [0] (.cons rfl .nil) ?_
 refine c_seq (c_region (l_move rfl rfl rfl ?_))
 refine l_call rfl rfl Tryz.func33 rfl rfl (.cons rfl .nil) (bookLook kb vw vm an cp hn hc hsame hU hL w (St.rows (τ := (book kb vw vm an cp)) (σ := []) hw0)) ?_
 rintro _ w1 ⟨rfl, hX⟩
 have hw1 : St w w.heap.size (fps (book kb vw vm an cp)) [As.blk kb 37 [vw, vm, .slice none 0 0, .slice none 0 0, .slice none 0 0, .slice none 0 0], As.ro 24 vw (an.map (·.1)), As.ro 24 vm (cp.map (·.1)), As.bag 5 (an.map fun p => (p.1, ints .u8 p.2)), As.bag 5 (cp.map fun p => (p.1, ints .u8 p.2))] w1 := hX _ _ _ [] hw0
 try clear hX hw0
 refine l_turn (s := 4) (v' := .bool true) rfl (by rfl) ?_
 refine l_move rfl rfl rfl (l_move rfl rfl rfl ?_)
 refine l_call rfl rfl Tryz.func34 rfl rfl (.cons rfl .nil) (closeB kb vw vm an cp (by omega) hL w1 (St.rows (τ := (book kb vw vm an cp)) (σ := []) hw1)) ?_
 rintro _ w2 ⟨rfl, hX⟩
 have hw2 : St w w.heap.size (fps (book kb vw vm an cp)) [As.blk kb 37 [vw, vm, .slice none 0 0, .slice none 0 0, .slice none 0 0, .slice none 0 0]] w2 := hX _ _ _ [] hw1
 try clear hX hw1
 refine l_turn (s := 7) (v' := .bool true) rfl (by rfl) ?_
 refine l_pick_t rfl rfl rfl rfl ?_
 refine l_move rfl rfl rfl (l_move rfl rfl rfl ?_)
 refine l_call rfl rfl Tryz.func35 rfl rfl (.cons rfl .nil) (closeW kb vw vm w2 (St.rows (τ := [As.blk kb 37 [vw, vm, .slice none 0 0, .slice none 0 0, .slice none 0 0, .slice none 0 0]]) (σ := []) hw2)) ?_
 rintro _ w3 ⟨rfl, hX⟩
 have hw3 : St w w.heap.size (fps (book kb vw vm an cp)) [As.blk kb 37 [vw, vm, .slice none 0 0, .slice none 0 0, .slice none 0 0, .slice none 0 0]] w3 := hX _ _ _ [] hw2
 try clear hX hw2
 refine l_turn (s := 11) (v' := .bool true) rfl (by rfl) ?_
 refine l_pick_t rfl rfl rfl rfl ?_
 refine l_move rfl rfl rfl (l_move rfl rfl rfl ?_)
 refine l_call rfl rfl Tryz.func36 rfl rfl (.cons rfl .nil) (closeI kb vw vm w3 (St.rows (τ := [As.blk kb 37 [vw, vm, .slice none 0 0, .slice none 0 0, .slice none 0 0, .slice none 0 0]]) (σ := []) hw3)) ?_
 rintro _ w4 ⟨rfl, hX⟩
 have hw4 : St w w.heap.size (fps (book kb vw vm an cp)) [As.blk kb 37 [vw, vm, .slice none 0 0, .slice none 0 0, .slice none 0 0, .slice none 0 0]] w4 := hX _ _ _ [] hw3
 try clear hX hw3
 refine l_turn (s := 15) (v' := .bool true) rfl (by rfl) ?_
 refine l_pick_t rfl rfl rfl rfl ?_
 refine l_assign rfl rfl rfl (l_nil (e_then ?_))
 refine c_keep [2] (.cons rfl .nil) ?_
 refine c_ret ?_
 refine e_done1 Tryz.results12 rfl ?_
 refine ⟨_, rfl, ?_⟩
 have hw5 := St.del .head hw4
 try clear hw4
 exact ⟨rfl, St.transS (τ' := []) hw5⟩
end Go.Proofs.YtojjlipcjdaejaaGreatDoor.W
