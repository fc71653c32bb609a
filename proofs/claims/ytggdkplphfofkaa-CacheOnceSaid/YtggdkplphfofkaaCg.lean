/- walk of the law CacheOnce -/
import Derived.Test.YtggdkplphfofkaaCf
set_option linter.unusedVariables false
set_option linter.unusedSimpArgs false
set_option maxRecDepth 10000
namespace Go.Proofs.Ytggdkplphfofkaa.W
open Go.Vc Go.RowKit

section
variable {P : Program} {N : Nat} {ρ : Env} {w w0 : World} {ops : Array Oper} {rest : List Oper} {d : Nat} {ty : TypeId} {pos : String} {af : Array Edge} {g : Option (Nat × Bool)} {B : Nat} {M : Nat → Prop} {σ σ' : List As}
/-- a slice literal of one struct of two cells -/
theorem l_lit2 {Q : Post} {t e : TypeId} {x : Operand} {y0 y1 z0 z1 : Value} {bytes : Nat} (hw : St w0 B M σ w) (hg : wantE ops ρ g = true) (hN : Nat.blt d N = true) (hT : P.underlying t = some (.slice e)) (hi : (P.info? e).map (fun i => (i.zero, i.size, i.bytes)) = some (some (.agg #[z0, z1]), 2, bytes))
    (hz : (Value.agg #[z0, z1]).cells = #[z0, z1]) (hx : evalE ρ x = some (.agg #[y0, y1])) (hc : (Value.agg #[y0, y1]).cells = #[y0, y1])
    (n : ∀ b w', St w0 B M (As.blk b e [y0, y1] :: σ) w' → RunL P N ops ⟨false, Q⟩ rest ((d, .slice (some ⟨b, 0, none⟩) 1 1) :: ρ) w') : RunL P N ops ⟨false, Q⟩ (⟨some d, .buildSlice t 1 #[(0, x)], ty, pos, af, g⟩ :: rest) ρ w := by
  obtain ⟨i, hi, h2, h3, h4⟩ := info_parts hi
  refine l_valw (fun h => by cases h) hg rfl hN (fun a ha => ?_) (n w.heap.size (w.alloc (.cells #[y0, y1] e)) (hw.new _ _ (heap_alloc_new w _) fun k hk => hk))
  have hr : (Instr.buildSlice t 1 #[(0, .agg #[y0, y1])]).run P w = .ok (.slice (some ⟨w.heap.size, 0, none⟩) 1 1) (w.alloc (.cells #[y0, y1] e)) := by
    simp [Instr.buildSlice, run_underlying hT, sizeOf, typeInfo, hi, h2, h3, zeroValue, hz, Instr.fill, hc, newRow, Array.range, List.range]
    generalize i.size = m at h3 ⊢
    subst h3
    refine congrArg (fun z => w.alloc (Obj.cells z e)) (Array.ext (by simp) fun i h1 h2 => ?_)
    have : i = 0 ∨ i = 1 := by simp at h2; omega
    rcases this with rfl | rfl <;> simp
  simp only [execOp]
  simp [ha.eval hx, hr]
/-- a row of structs appended to by one -/
theorem k_append1 {Q : Post} {s x : Operand} {t e : TypeId} {z v : Value} {k bytes c : Nat} {rs : List (List Value)} {r : List Value} (hw : St w0 B M (As.rk e k v rs :: σ) w) (hg : wantE ops ρ g = true) (hN : Nat.blt d N = true) (ht : P.underlying t = some (.slice e)) (hi : (P.info? e).map (fun i => (i.zero, i.size, i.bytes)) = some (some z, k, bytes)) (hzs : z.cells.size = k)
    (hs : evalE ρ s = some v) (hx : evalE ρ x = some (.slice (some ⟨c, 0, none⟩) 1 1)) (hl : r.length = k) (hnews : Sl w (some ⟨c, 0, none⟩) r) (h1 : ∀ u ∈ r, u.oneCell' = true) (hbytes : (rs.length + 1) * bytes ≤ 140737488355328) (h63 : rs.length + 1 ≤ 9223372036854775807)
    (nx : ∀ v' w', St w0 B M (As.rk e k v' (rs ++ [r]) :: σ) w' → RunL P N ops ⟨false, Q⟩ rest ((d, v') :: ρ) w') : RunL P N ops ⟨false, Q⟩ (⟨some d, .call ⟨.builtin .append, #[s, x], #[t, t]⟩, ty, pos, af, g⟩ :: rest) ρ w :=
  l_append0 hw hg hN ht hi hzs hs hx (by simp [hl]) hnews (fun h => by cases h) h1 hbytes h63 (fun A' c' w' hw' => nx _ w' (hw'.cast (by unfold As.rk; rw [List.length_append, List.flatten_append]; simp)))
end
def askP (l : List Int) (i : Nat) (s : Int) : Prop := ∃ x ∈ l.take i, (whereS (eQ x)).1 = s
instance (l : List Int) (i : Nat) (s : Int) : Decidable (askP l i s) := by unfold askP; infer_instance
theorem askP_succ {l : List Int} {i : Nat} (h : i < l.length) (s : Int) : askP l (i + 1) s ↔ askP l i s ∨ (whereS (eQ (l.getD i 0))).1 = s := by
  unfold askP
  rw [take_snoc' h]
  constructor
  · rintro ⟨x, hx, e⟩
    rcases List.mem_append.1 hx with h1 | h1
    · exact .inl ⟨x, h1, e⟩
    · rw [List.mem_singleton.1 h1] at e; exact .inr e
  · rintro (⟨x, hx, e⟩ | e)
    · exact ⟨x, List.mem_append_left _ hx, e⟩
    · exact ⟨_, List.mem_append_right _ (.head _), e⟩
def entsW (l : List Int) : List (List Value) := l.map fun x => wrow (entS (eQ x)).1
theorem entsW_at {l : List Int} {i : Nat} (h : i < l.length) : (entsW l)[i]? = some (wrow (entS (eQ (l.getD i 0))).1) := by
  unfold entsW
  rw [List.getElem?_map, List.getD_eq_getElem?_getD, List.getElem?_eq_getElem h]
  rfl
theorem entsW_rows (l : List Int) : Rows_ 2 (entsW l) := fun r hr => by
  obtain ⟨x, _, rfl⟩ := List.mem_map.1 hr
  exact ⟨rfl, by simp [Value.oneCell']⟩
theorem entsW_snoc {l : List Int} {i : Nat} (h : i < l.length) : entsW (l.take (i + 1)) = entsW (l.take i) ++ [wrow (entS (eQ (l.getD i 0))).1] := by
  rw [take_snoc' h]
  simp [entsW]
theorem once_has {l : List Int} {L : Cac} (h : ∀ t, hasP L t = decide (∃ q ∈ l.map eQ, inQ q ∧ t = ((q + 342) / 16).toNat)) (s : Nat) : hasP L s = decide (askP l l.length s) := by
  rw [h]
  refine decide_eq_decide.2 ?_
  unfold askP
  rw [List.take_length]
  constructor
  · rintro ⟨q, hq, hin, e⟩
    obtain ⟨x, hx, rfl⟩ := List.mem_map.1 hq
    refine ⟨x, hx, ?_⟩
    have h1 : (whereS (eQ x)).1 = (eQ x + 342) / 16 := by unfold whereS; rw [if_neg (by unfold inQ at hin; omega)]
    rw [h1]
    unfold inQ at hin
    omega
  · rintro ⟨x, hx, e⟩
    have hin := eQ_in x
    have h1 : (whereS (eQ x)).1 = (eQ x + 342) / 16 := by unfold whereS; rw [if_neg (by unfold inQ at hin; omega)]
    rw [h1] at e
    exact ⟨eQ x, List.mem_map.2 ⟨x, hx, rfl⟩, hin, by omega⟩
theorem has_twice {l : List Int} {L L2 : Cac} (h : CacL L l L2) (h0 : (∀ t, hasP L t = false) ∨ ∀ t, hasP L t = decide (∃ q ∈ l, inQ q ∧ t = ((q + 342) / 16).toNat)) : ∀ t, hasP L2 t = decide (∃ q ∈ l, inQ q ∧ t = ((q + 342) / 16).toNat) := fun t => by
  rw [h.has]
  rcases h0 with h0 | h0
  · rw [h0, Bool.or_false]
  · rw [h0, Bool.or_self]

theorem cacheOnceL (v : Value) (l : List Int) (hl : Rg (-9223372036854775808) 9223372036854775807 l) (w : World) (hv : IV w v (ints .i64 l)) :
    CallsV P 3 [v] w fun r w' => r = .bool true ∧ Grow w w' [] := by
  refine enterW Try.func3 rfl Try.ntmps3 rfl ?_
  have hw0 := St.start w
  obtain ⟨n, hn⟩ : ∃ n, n = (l.take 100).length := ⟨_, rfl⟩
  have hn2 : n = min 100 l.length := by rw [hn, List.length_take]
  have hgd : ∀ i, i < n → (l.take 100).getD i 0 = l.getD i 0 := fun i hi => by simp [List.getD, List.getElem?_take, show i < 100 by omega]
  have hmem : ∀ i, i < n → l.getD i 0 ∈ l := fun i hi => by rw [List.getD_eq_getElem?_getD, List.getElem?_eq_getElem (by omega)]; exact List.getElem_mem _
  refine c_seq ?_
  refine c_region ?_
  refine l_assign rfl rfl rfl ?_
  refine l_nil ?_
  refine e_then ?_
  refine c_keep [0] (.cons rfl .nil) ?_
  refine c_seq ?_
  refine c_region ?_
  refine l_call rfl rfl Try.func6 rfl rfl .nil (newC w) ?_
  rintro _ w1 ⟨b, rfl, hG⟩
  have hw1 := hG _ _ _ _ hw0
  try clear hG hw0
  simp only [List.cons_append, List.nil_append] at hw1
  refine l_assign rfl rfl rfl ?_
  refine l_nil ?_
  refine e_then ?_
  refine c_keep [0, 3] (.cons rfl (.cons rfl .nil)) ?_
  refine c_seq ?_
  refine c_seq ?_
  refine c_region ?_
  refine l_move rfl rfl rfl ?_
  refine l_eqlp (by kernel_rfl) rfl rfl rfl rfl ?_
  refine l_turn (s := 19) (v' := .bool false) rfl (by rfl) ?_
  refine l_move rfl rfl rfl ?_
  refine l_call rfl rfl Try.func7 rfl rfl .nil (wakesL7 w1) ?_
  rintro _ w2 ⟨rfl, hG⟩
  have hw2 := hG _ _ _ _ hw1
  try clear hG hw1
  simp only [List.cons_append, List.nil_append] at hw2
  refine l_turn (s := 21) (v' := .bool true) rfl (by rfl) ?_
  first | refine l_notd rfl rfl rfl ?_ | refine l_not rfl rfl rfl ?_
  refine l_turn (s := 22) (v' := .bool false) rfl (by rfl) ?_
  refine l_pick_f rfl rfl rfl rfl ?_
  refine l_nil ?_
  refine e_then ?_
  refine c_keep [0, 3, 23] (.cons rfl (.cons rfl (.cons rfl .nil))) ?_
  refine c_cond_f rfl rfl ?_
  refine c_skip ?_
  refine e_then ?_
  refine c_keep [0, 3] (.cons rfl (.cons rfl .nil)) ?_
  refine c_seq ?_
  refine c_region ?_
  refine l_assign rfl rfl rfl ?_
  refine l_nil ?_
  refine e_then ?_
  refine c_seq ?_
  refine c_seq ?_
  refine c_region ?_
  refine l_assign rfl rfl rfl ?_
  refine l_nil ?_
  refine e_then ?_
  refine c_block ?_
  refine c_loopk (ι := Nat × Cac × Value × List (List Value)) (fun (z0 : Nat × Cac × Value × List (List Value)) => match z0 with | ⟨u, L1, vf, fs⟩ => 2 - u) (fun (z0 : Nat × Cac × Value × List (List Value)) (w' : World) => match z0 with | ⟨u, L1, vf, fs⟩ => St w w.heap.size None' ([As.rk 30 2 vf fs, As.blk b 69 (cacC L1), As.many (inR L1)]) w' ∧ u ≤ 2 ∧ L1.length = 41 ∧ ((u = 0 ∧ fs = [] ∧ L1 = (List.replicate 41 none)) ∨ (0 < u ∧ fs = entsW (l.take 100) ∧ ∀ t, hasP L1 t = decide (∃ q ∈ (l.take 100).map eQ, inQ q ∧ t = ((q + 342) / 16).toNat)))) (fun (z0 : Nat × Cac × Value × List (List Value)) => match z0 with | ⟨u, L1, vf, fs⟩ => [(4, vf), (5, .int .i64 (u : Int))]) [0, 3] (0, (List.replicate 41 none), .slice none 0 0, []) ?_ (.cons rfl (.cons rfl .nil)) ?_ ?_
  · exact ⟨hw2.nilk 30 2, by omega, (List.length_replicate ..), .inl ⟨rfl, rfl, rfl⟩⟩
  · exact (.cons rfl (by first | rfl | (refine congrArg (Value.int _) ?_; omega)) (.cons rfl (by first | rfl | (refine congrArg (Value.int _) ?_; omega)) .nil))
  rintro ⟨u, L1, vf, fs⟩ w3 ⟨hw3, hu, hL1, hinv⟩
  show RunC P _ _ _ (_ :: _) _
  refine c_seq ?_
  refine c_seq ?_
  refine c_region ?_
  refine l_move rfl rfl rfl ?_
  refine l_lss rfl rfl rfl rfl ?_
  refine l_nil ?_
  refine e_then ?_
  refine c_keep [0, 3, 4, 5, 25] (.cons rfl (.cons rfl (.cons rfl (.cons rfl (.cons rfl .nil))))) ?_
  first | refine c_cond rfl (fun hc1 => ?_) (fun hc1 => ?_) | refine c_condb rfl (fun hc1 => ?_) (fun hc1 => ?_)
  · skip
    refine c_skip ?_
    refine e_then ?_
    refine c_keep [0, 3, 4, 5] (.cons rfl (.cons rfl (.cons rfl (.cons rfl .nil)))) ?_
    refine c_seq ?_
    refine c_block ?_
    refine c_seq ?_
    refine c_region ?_
    refine l_assign rfl rfl rfl ?_
    refine l_nil ?_
    refine e_then ?_
    refine c_block ?_
    refine c_loopk (ι := Nat × Cac × Value × List (List Value)) (fun (z0 : Nat × Cac × Value × List (List Value)) => match z0 with | ⟨i, L2, vf2, fs2⟩ => n - i) (fun (z0 : Nat × Cac × Value × List (List Value)) (w' : World) => match z0 with | ⟨i, L2, vf2, fs2⟩ => St w w.heap.size None' ([As.rk 30 2 vf2 fs2, As.blk b 69 (cacC L2), As.many (inR L2)]) w' ∧ i ≤ n ∧ L2.length = 41 ∧ CacL L1 (((l.take 100).map eQ).take i) L2 ∧ fs2 = (if u = 0 then entsW ((l.take 100).take i) else entsW (l.take 100))) (fun (z0 : Nat × Cac × Value × List (List Value)) => match z0 with | ⟨i, L2, vf2, fs2⟩ => [(4, vf2), (6, .int .i64 (i : Int))]) [0, 3, 5] (0, L1, vf, fs) ?_ (.cons rfl (.cons rfl (.cons rfl .nil))) ?_ ?_
    · refine ⟨hw3, by omega, hL1, .nil, ?_⟩
      rcases hinv with ⟨h1, h2, _⟩ | ⟨h1, h2, _⟩
      · rw [if_pos h1, h2]; rfl
      · rw [if_neg (by omega), h2]
    · exact (.cons rfl (by first | rfl | (refine congrArg (Value.int _) ?_; omega)) (.cons rfl (by first | rfl | (refine congrArg (Value.int _) ?_; omega)) .nil))
    rintro ⟨i, L2, vf2, fs2⟩ w4 ⟨hw4, hi, hL2, hCL, hfs2⟩
    show RunC P _ _ _ (_ :: _) _
    have hRs2 : Rows_ 2 fs2 := by rw [hfs2]; split <;> exact entsW_rows _
    have hfl2 : fs2.length ≤ 100 := by rw [hfs2]; split <;> (unfold entsW; rw [List.length_map]; simp; omega)
    refine c_seq ?_
    refine c_seq ?_
    refine c_region ?_
    refine l_move rfl rfl rfl ?_
    refine l_move rfl rfl rfl ?_
    refine v_leni rfl rfl Try.underlying22 rfl (by first | exact hw4.ik (by assumption) mem0 | exact hw4.ibl mem1 | exact hw4.iarg hv | assumption) ?_
    refine l_lss rfl rfl rfl rfl ?_
    refine l_move rfl rfl rfl ?_
    apply l_and 2 [0, 3, 4, 5, 6] rfl rfl (.cons rfl (.cons rfl (.cons rfl (.cons rfl (.cons rfl (.cons rfl .nil)))))) rfl rfl (fun _ => rfl) rfl rfl rfl
    · intro hg9_5
      refine l_move rfl rfl rfl ?_
      refine l_lss rfl rfl rfl rfl ?_
      refine l_nil ?_
      exact e_stays rfl (.cons rfl (congrArg Value.bool (decide_eq_true hg9_5).symm) (.cons rfl rfl (.cons rfl rfl (.cons rfl rfl (.cons rfl rfl (.cons rfl rfl .nil))))))
    refine l_nil ?_
    refine e_then ?_
    refine c_keep [0, 3, 4, 5, 6, 35] (.cons rfl (.cons rfl (.cons rfl (.cons rfl (.cons rfl (.cons rfl .nil)))))) ?_
    first | refine c_cond rfl (fun hc2 => ?_) (fun hc2 => ?_) | refine c_condb rfl (fun hc2 => ?_) (fun hc2 => ?_)
    · skip
      refine c_skip ?_
      refine e_then ?_
      refine c_keep [0, 3, 4, 5, 6] (.cons rfl (.cons rfl (.cons rfl (.cons rfl (.cons rfl .nil))))) ?_
      refine c_seq ?_
      refine c_block ?_
      refine c_seq ?_
      refine c_region ?_
      have hin1 : i < n := by omega
      have hbi := hl _ (hmem i hin1)
      have hei := eQ_in (l.getD i 0)
      unfold inQ at hei
      refine l_move rfl rfl rfl ?_
      refine l_move rfl rfl rfl ?_
      refine v_getr (j := i) rfl rfl rfl rfl Try.underlying22 tz3 Try.underlying3 rfl rfl (by first | exact hw4.ik (by assumption) mem0 | exact hw4.ibl mem1 | exact hw4.iarg hv | assumption) (by assumption) rfl (by omega) (by first | omega | (simp; done) | (simp; omega)) (fun hb11_2 => ?_)
      refine l_callp rfl rfl Try.func8 rfl rfl (.cons rfl (.cons rfl (.cons rfl .nil))) (withinW (l.getD i 0) (-342) 308 (by omega) (by omega) _) ?_
      refine l_assign rfl rfl rfl ?_
      refine l_nil ?_
      refine e_then ?_
      refine c_keep [0, 3, 4, 5, 6, 7] (.cons rfl (.cons rfl (.cons rfl (.cons rfl (.cons rfl (.cons rfl .nil)))))) ?_
      refine c_seq ?_
      refine c_region ?_
      refine l_move rfl rfl rfl ?_
      refine l_move rfl rfl rfl ?_
      have hw5 := St.frontL (l := [_, _]) hw4
      simp only [List.cons_append, List.nil_append] at hw5
      try clear hw4
      have hw6 := St.frontL (l := [_, _]) hw5
      simp only [List.cons_append, List.nil_append] at hw6
      try clear hw5
      refine l_call rfl rfl Try.func9 rfl rfl (.cons rfl (.cons rfl .nil)) (EntryC b L2 hL2 (eQ (l.getD i 0)) (by omega) w4 (St.rows (τ := cacW b L2) hw6)) ?_
      rintro _ w7 ⟨L3, rfl, hQ, hX⟩
      have hw7 := hX _ _ _ _ hw6
      simp only [cacW, List.cons_append, List.nil_append] at hw7
      try clear hX hw6
      have hL3 : L3.length = 41 := by rw [hQ.len]; exact hL2
      have hev : (entS (eQ (l.getD i 0))).2.2 = 0 := by unfold entS; rw [if_neg (by omega)]; split <;> rfl
      refine l_move rfl rfl rfl ?_
      refine l_extract rfl rfl rfl rfl ?_
      refine l_extract rfl rfl rfl rfl ?_
      refine l_extract rfl rfl rfl rfl ?_
      refine l_alloc hw7 ta30 rfl rfl (fun b12_7 w8 hw8 => ?_)
      try clear hw7
      refine l_store_blks hw8 .head (.zero (.zero .nil)) rfl tz30 rfl rfl (by first | (simp [Value.oneCell']; done) | (intro u hu; simp only [List.mem_cons, List.not_mem_nil, or_false] at hu; rcases hu with rfl | rfl <;> first | rfl | assumption)) (fun w9 hw9 => ?_)
      try clear hw8
      refine l_assign rfl rfl rfl ?_
      refine l_assign rfl rfl rfl ?_
      refine l_nil ?_
      refine e_then ?_
      refine c_keep [0, 3, 4, 5, 6, 8, 10] (.cons rfl (.cons rfl (.cons rfl (.cons rfl (.cons rfl (.cons rfl (.cons rfl .nil))))))) ?_
      refine c_seq ?_
      refine c_seq ?_
      refine c_still (by kernel_rfl) (by kernel_rfl) ?_
      have hw10 := hw9.drewn
      try clear hw9
      refine l_move rfl rfl rfl ?_
      refine l_callp rfl rfl Try.func10 rfl rfl (.cons rfl .nil) (numL7 _ _) ?_
      refine l_neq rfl rfl rfl rfl ?_
      refine l_turn (s := 52) (v' := .bool false) rfl (by rw [hev]; rfl) ?_
      refine l_move rfl rfl rfl ?_
      refine l_move rfl rfl rfl ?_
      refine l_eql rfl rfl rfl rfl ?_
      refine l_move rfl rfl rfl ?_
      apply l_and 6 [0, 3, 4, 5, 6, 8, 53] rfl rfl (.cons rfl (.cons rfl (.cons rfl (.cons rfl (.cons rfl (.cons rfl (.cons rfl (.cons rfl .nil)))))))) rfl rfl (fun _ => rfl) rfl rfl rfl
      · intro hg13_7
        have hfe : fs2[i]? = some (wrow (entS (eQ (l.getD i 0))).1) := by
          rw [hfs2, if_neg (by omega), entsW_at (by omega), hgd i hin1]
        have hfi := (List.getElem?_eq_some_iff.1 hfe).1
        refine l_load_agg hw10 mem0 rfl rfl Try.underlying30 rfl tz30 rfl (.take (.take .nil)) ?_
        refine l_move rfl rfl rfl ?_
        refine l_move rfl rfl rfl ?_
        refine k_addr (j := i) rfl rfl Try.underlying26 tz30 (by decide) rfl rfl (by first | exact hw10.ibl mem0 | exact hw10.ibl mem1 | exact hw10.ik (by assumption) mem3 | exact hw10.iarg hv | assumption) (by first | rfl | omega) (by first | omega | (simp; done) | (simp; omega)) (fun ad13_10 ac13_10 hA13_10 => ?_)
        refine k_load (j := i) rfl rfl Try.underlying30 rfl tz30 rfl hA13_10 (by first | exact hw10.ibl mem0 | exact hw10.ibl mem1 | exact hw10.ik (by assumption) mem3 | exact hw10.iarg hv | assumption) (hfe) ?_
        refine l_neqA rfl rfl fl30 rfl rfl (.int rfl rfl (.int rfl rfl .nil)) ?_
        refine l_nil ?_
        exact e_stays rfl (.cons rfl (congrArg Value.bool (decide_eq_true hg13_7).symm) (.cons rfl rfl (.cons rfl rfl (.cons rfl rfl (.cons rfl rfl (.cons rfl rfl (.cons rfl rfl (.cons rfl rfl .nil))))))))
      refine l_turn (s := 63) (v' := .bool false) rfl (by rw [decide_eq_false (fun h => h.2 ⟨rfl, rfl, trivial⟩)]) ?_
      refine l_pick_f rfl rfl rfl rfl ?_
      refine l_nil ?_
      refine e_then ?_
      refine c_keep [0, 3, 4, 5, 6, 8, 64] (.cons rfl (.cons rfl (.cons rfl (.cons rfl (.cons rfl (.cons rfl (.cons rfl .nil))))))) ?_
      refine c_cond_f rfl rfl ?_
      refine c_skip ?_
      refine e_then ?_
      refine c_keep [0, 3, 4, 5, 6, 8] (.cons rfl (.cons rfl (.cons rfl (.cons rfl (.cons rfl (.cons rfl .nil)))))) ?_
      refine c_seq ?_
      refine c_region ?_
      refine l_move rfl rfl rfl ?_
      refine l_eql rfl rfl rfl rfl ?_
      refine l_nil ?_
      refine e_then ?_
      refine c_keep [0, 3, 4, 5, 6, 8, 66] (.cons rfl (.cons rfl (.cons rfl (.cons rfl (.cons rfl (.cons rfl (.cons rfl .nil))))))) ?_
      first | refine c_cond rfl (fun hc4 => ?_) (fun hc4 => ?_) | refine c_condb rfl (fun hc4 => ?_) (fun hc4 => ?_)
      · skip
        refine c_region ?_
        refine l_move rfl rfl rfl ?_
        refine l_load_agg hw10 mem0 rfl rfl Try.underlying30 rfl tz30 rfl (.take (.take .nil)) ?_
        have hw11 := St.frontL (l := [_, _, _]) hw10
        simp only [List.cons_append, List.nil_append] at hw11
        try clear hw10
        refine l_lit2 hw11 rfl rfl Try.underlying26 ti30 rfl rfl rfl (fun b16_2 w12 hw12 => ?_)
        refine k_append1 (r := wrow (entS (eQ (l.getD i 0))).1) hw12.front1 rfl rfl Try.underlying26 ti30 rfl rfl rfl rfl (blk_sl (hw12.ok mem0)) (by simp [Value.oneCell']) (by omega) (by omega) (fun v16_3 w13 hw13 => ?_)
        refine l_assign rfl rfl rfl ?_
        refine l_nil ?_
        refine e_blk ?_
        refine e_then ?_
        refine c_keep [0, 3, 4, 5, 6] (.cons rfl (.cons rfl (.cons rfl (.cons rfl (.cons rfl .nil))))) ?_
        refine c_region ?_
        refine l_move rfl rfl rfl ?_
        refine l_add rfl rfl rfl rfl (w_i64 (by omega)) ?_
        refine l_assign rfl rfl rfl ?_
        refine l_nil ?_
        have hsn := entsW_snoc (l := (l.take 100)) (i := i) (by omega)
        rw [hgd i hin1] at hsn
        have hw14 := St.del (.tail (.tail .head)) hw13
        try clear hw13
        have hw15 := St.del (.tail .head) hw14
        try clear hw14
        refine e_againk (i := (i, L2, vf2, fs2)) (i + 1, L3, v16_3, fs2 ++ [wrow (entS (eQ (l.getD i 0))).1]) ?_ ?_ (.cons rfl (.cons rfl (.cons rfl .nil))) ?_
        · first | omega | (simp; omega)
        · exact ⟨hw15, by omega, hL3, by rw [take_snoc' (by rw [List.length_map]; omega)]; exact .snoc hCL (by rw [show ((l.take 100).map eQ).getD i 0 = eQ (l.getD i 0) from by rw [List.getD_eq_getElem?_getD, List.getElem?_map, ← hgd i hin1, List.getD_eq_getElem?_getD, List.getElem?_eq_getElem (by omega)]; rfl]; exact hQ), by rw [hfs2, if_pos (by omega), if_pos (by omega), hsn]⟩
        · exact (.cons rfl (by first | rfl | (refine congrArg (Value.int _) ?_; omega)) (.cons rfl (by first | rfl | (refine congrArg (Value.int _) ?_; omega)) .nil))
      · skip
        refine c_skip ?_
        refine e_blk ?_
        refine e_then ?_
        refine c_keep [0, 3, 4, 5, 6] (.cons rfl (.cons rfl (.cons rfl (.cons rfl (.cons rfl .nil))))) ?_
        refine c_region ?_
        refine l_move rfl rfl rfl ?_
        refine l_add rfl rfl rfl rfl (w_i64 (by omega)) ?_
        refine l_assign rfl rfl rfl ?_
        refine l_nil ?_
        have hw16 := St.del .head hw10
        try clear hw10
        refine e_againk (i := (i, L2, vf2, fs2)) (i + 1, L3, vf2, fs2) ?_ ?_ (.cons rfl (.cons rfl (.cons rfl .nil))) ?_
        · first | omega | (simp; omega)
        · exact ⟨St.frontL (l := [_, _]) hw16, by omega, hL3, by rw [take_snoc' (by rw [List.length_map]; omega)]; exact .snoc hCL (by rw [show ((l.take 100).map eQ).getD i 0 = eQ (l.getD i 0) from by rw [List.getD_eq_getElem?_getD, List.getElem?_map, ← hgd i hin1, List.getD_eq_getElem?_getD, List.getElem?_eq_getElem (by omega)]; rfl]; exact hQ), by rw [hfs2, if_neg (by omega), if_neg (by omega)]⟩
        · exact (.cons rfl (by first | rfl | (refine congrArg (Value.int _) ?_; omega)) (.cons rfl (by first | rfl | (refine congrArg (Value.int _) ?_; omega)) .nil))
    · skip
      refine c_exit ?_
      refine e_then_exit ?_
      refine e_then_exit ?_
      refine e_blk_exit ?_
      refine e_blk ?_
      refine e_then ?_
      refine c_keep [0, 3, 4, 5] (.cons rfl (.cons rfl (.cons rfl (.cons rfl .nil)))) ?_
      refine c_region ?_
      refine l_move rfl rfl rfl ?_
      refine l_add rfl rfl rfl rfl (w_i64 (by omega)) ?_
      refine l_assign rfl rfl rfl ?_
      refine l_nil ?_
      refine e_againk (i := (u, L1, vf, fs)) (u + 1, L2, vf2, fs2) ?_ ?_ (.cons rfl (.cons rfl .nil)) ?_
      · first | omega | (simp; omega)
      · have hi : i = n := by omega
        subst hi
        rw [show ((l.take 100).map eQ).take i = (l.take 100).map eQ from by rw [List.take_of_length_le (by rw [List.length_map]; omega)]] at hCL
        have h00 : (∀ t, hasP L1 t = false) ∨ ∀ t, hasP L1 t = decide (∃ q ∈ (l.take 100).map eQ, inQ q ∧ t = ((q + 342) / 16).toNat) := by
          rcases hinv with ⟨_, _, h⟩ | ⟨_, _, h⟩
          · left; intro t; rw [h]; exact has0 t
          · exact .inr h
        have hH2 := has_twice hCL h00
        refine ⟨hw4, by omega, hL2, .inr ⟨by omega, ?_, hH2⟩⟩
        rw [hfs2]
        split
        · rw [List.take_of_length_le (by omega)]
        · rfl
      · exact (.cons rfl (by first | rfl | (refine congrArg (Value.int _) ?_; omega)) (.cons rfl (by first | rfl | (refine congrArg (Value.int _) ?_; omega)) .nil))
  · skip
    refine c_exit ?_
    refine e_then_exit ?_
    refine e_then_exit ?_
    refine e_blk_exit ?_
    refine e_then ?_
    refine c_keep [0, 3] (.cons rfl (.cons rfl .nil)) ?_
    refine c_seq ?_
    refine c_seq ?_
    refine c_region ?_
    have hu2 : u = 2 := by omega
    obtain ⟨_, hfsn, hHQ⟩ : 0 < u ∧ fs = entsW (l.take 100) ∧ ∀ t, hasP L1 t = decide (∃ q ∈ (l.take 100).map eQ, inQ q ∧ t = ((q + 342) / 16).toNat) := by rcases hinv with h | h; omega; exact h
    refine l_assign rfl rfl rfl ?_
    refine l_nil ?_
    refine e_then ?_
    refine c_block ?_
    refine c_loopk (ι := Nat) (fun (s : Nat) => 41 - s) (fun (s : Nat) (w' : World) => St w w.heap.size None' ([As.rk 30 2 vf fs, As.blk b 69 (cacC L1), As.many (inR L1)]) w' ∧ s ≤ 41) (fun (s : Nat) => [(11, .int .i64 (s : Int))]) [0, 3] (0) ?_ (.cons rfl (.cons rfl .nil)) ?_ ?_
    · exact ⟨hw3, by omega⟩
    · exact (.cons rfl (by first | rfl | (refine congrArg (Value.int _) ?_; omega)) .nil)
    rintro s w17 ⟨hw17, hs⟩
    show RunC P _ _ _ (_ :: _) _
    refine c_seq ?_
    refine c_seq ?_
    refine c_region ?_
    refine l_move rfl rfl rfl ?_
    refine l_lss rfl rfl rfl rfl ?_
    refine l_nil ?_
    refine e_then ?_
    refine c_keep [0, 3, 11, 72] (.cons rfl (.cons rfl (.cons rfl (.cons rfl .nil)))) ?_
    first | refine c_cond rfl (fun hc5 => ?_) (fun hc5 => ?_) | refine c_condb rfl (fun hc5 => ?_) (fun hc5 => ?_)
    · skip
      refine c_skip ?_
      refine e_then ?_
      refine c_keep [0, 3, 11] (.cons rfl (.cons rfl (.cons rfl .nil))) ?_
      refine c_seq ?_
      refine c_block ?_
      refine c_seq ?_
      refine c_region ?_
      refine l_assign rfl rfl rfl ?_
      refine l_nil ?_
      refine e_then ?_
      refine c_seq ?_
      refine c_seq ?_
      refine c_region ?_
      refine l_assign rfl rfl rfl ?_
      refine l_nil ?_
      refine e_then ?_
      refine c_block ?_
      refine c_loopk (ι := Nat) (fun (i : Nat) => n - i) (fun (i : Nat) (w' : World) => St w w.heap.size None' ([As.rk 30 2 vf fs, As.blk b 69 (cacC L1), As.many (inR L1)]) w' ∧ i ≤ n) (fun (i : Nat) => [(12, .bool (decide (askP (l.take 100) i s))), (13, .int .i64 (i : Int))]) [0, 3, 11] (0) ?_ (.cons rfl (.cons rfl (.cons rfl .nil))) ?_ ?_
      · exact ⟨hw17, by omega⟩
      · exact (.cons rfl (by (refine congrArg Value.bool (decide_eq_false ?_).symm; rintro ⟨x, hx, _⟩; simp at hx)) (.cons rfl (by first | rfl | (refine congrArg (Value.int _) ?_; omega)) .nil))
      rintro i w18 ⟨hw18, hi⟩
      show RunC P _ _ _ (_ :: _) _
      refine c_seq ?_
      refine c_seq ?_
      refine c_region ?_
      refine l_move rfl rfl rfl ?_
      refine l_move rfl rfl rfl ?_
      refine v_leni rfl rfl Try.underlying22 rfl (by first | exact hw18.ik (by assumption) mem0 | exact hw18.ibl mem1 | exact hw18.iarg hv | assumption) ?_
      refine l_lss rfl rfl rfl rfl ?_
      refine l_move rfl rfl rfl ?_
      apply l_and 2 [0, 3, 11, 12, 13] rfl rfl (.cons rfl (.cons rfl (.cons rfl (.cons rfl (.cons rfl (.cons rfl .nil)))))) rfl rfl (fun _ => rfl) rfl rfl rfl
      · intro hg22_5
        refine l_move rfl rfl rfl ?_
        refine l_lss rfl rfl rfl rfl ?_
        refine l_nil ?_
        exact e_stays rfl (.cons rfl (congrArg Value.bool (decide_eq_true hg22_5).symm) (.cons rfl rfl (.cons rfl rfl (.cons rfl rfl (.cons rfl rfl (.cons rfl rfl .nil))))))
      refine l_nil ?_
      refine e_then ?_
      refine c_keep [0, 3, 11, 12, 13, 82] (.cons rfl (.cons rfl (.cons rfl (.cons rfl (.cons rfl (.cons rfl .nil)))))) ?_
      first | refine c_cond rfl (fun hc6 => ?_) (fun hc6 => ?_) | refine c_condb rfl (fun hc6 => ?_) (fun hc6 => ?_)
      · skip
        refine c_skip ?_
        refine e_then ?_
        refine c_keep [0, 3, 11, 12, 13] (.cons rfl (.cons rfl (.cons rfl (.cons rfl (.cons rfl .nil))))) ?_
        refine c_seq ?_
        refine c_block ?_
        refine c_seq ?_
        refine c_region ?_
        have hin1 : i < n := by omega
        have hbi := hl _ (hmem i hin1)
        have hei := eQ_in (l.getD i 0)
        unfold inQ at hei
        refine l_move rfl rfl rfl ?_
        refine l_move rfl rfl rfl ?_
        refine v_getr (j := i) rfl rfl rfl rfl Try.underlying22 tz3 Try.underlying3 rfl rfl (by first | exact hw18.ik (by assumption) mem0 | exact hw18.ibl mem1 | exact hw18.iarg hv | assumption) (by assumption) rfl (by omega) (by first | omega | (simp; done) | (simp; omega)) (fun hb24_2 => ?_)
        refine l_callp rfl rfl Try.func8 rfl rfl (.cons rfl (.cons rfl (.cons rfl .nil))) (withinW (l.getD i 0) (-342) 308 (by omega) (by omega) _) ?_
        refine l_callp rfl rfl Try.func11 rfl rfl (.cons rfl .nil) (whereR (eQ (l.getD i 0)) (by omega) _) ?_
        refine l_move rfl rfl rfl ?_
        refine l_extract rfl rfl rfl rfl ?_
        refine l_extract rfl rfl rfl rfl ?_
        refine l_extract rfl rfl rfl rfl ?_
        refine l_assign rfl rfl rfl ?_
        refine l_assign rfl rfl rfl ?_
        refine l_assign rfl rfl rfl ?_
        refine l_nil ?_
        refine e_then ?_
        refine c_keep [0, 3, 11, 12, 13, 14] (.cons rfl (.cons rfl (.cons rfl (.cons rfl (.cons rfl (.cons rfl .nil)))))) ?_
        refine c_region ?_
        refine l_move rfl rfl rfl ?_
        refine l_move rfl rfl rfl ?_
        apply l_or 3 [0, 3, 11, 12, 13] rfl rfl (.cons rfl (.cons rfl (.cons rfl (.cons rfl (.cons rfl (.cons rfl .nil)))))) rfl rfl (fun _ => rfl) rfl rfl rfl
        · intro hg25_2
          refine l_move rfl rfl rfl ?_
          refine l_move rfl rfl rfl ?_
          refine l_eql rfl rfl rfl rfl ?_
          refine l_nil ?_
          exact e_stays rfl (.cons rfl (congrArg Value.bool (decide_eq_false hg25_2).symm) (.cons rfl rfl (.cons rfl rfl (.cons rfl rfl (.cons rfl rfl (.cons rfl rfl .nil))))))
        refine l_assign rfl rfl rfl ?_
        refine l_nil ?_
        refine e_blk ?_
        refine e_then ?_
        refine c_keep [0, 3, 11, 12, 13] (.cons rfl (.cons rfl (.cons rfl (.cons rfl (.cons rfl .nil))))) ?_
        refine c_region ?_
        refine l_move rfl rfl rfl ?_
        refine l_add rfl rfl rfl rfl (w_i64 (by omega)) ?_
        refine l_assign rfl rfl rfl ?_
        refine l_nil ?_
        refine e_againk (i := (i)) (i + 1) ?_ ?_ (.cons rfl (.cons rfl (.cons rfl .nil))) ?_
        · first | omega | (simp; omega)
        · exact ⟨hw18, by omega⟩
        · exact (.cons rfl (by (refine congrArg Value.bool (decide_eq_decide.2 ?_); rw [askP_succ (by omega), hgd i hin1])) (.cons rfl (by first | rfl | (refine congrArg (Value.int _) ?_; omega)) .nil))
      · skip
        refine c_exit ?_
        refine e_then_exit ?_
        refine e_then_exit ?_
        refine e_blk_exit ?_
        refine e_then ?_
        refine c_keep [0, 3, 11, 12] (.cons rfl (.cons rfl (.cons rfl (.cons rfl .nil)))) ?_
        refine c_seq ?_
        refine c_region ?_
        obtain rfl : i = n := by omega
        have hAs := once_has hHQ s
        rw [← hn] at hAs
        refine l_move rfl rfl rfl ?_
        refine l_move rfl rfl rfl ?_
        refine l_move rfl rfl rfl ?_
        refine l_callp rfl rfl Try.func12 rfl rfl (.cons rfl (.cons rfl .nil)) (BuiltC b L1 hL1 (s : Int) _ (hw18.ok mem1) (hw18.ok mem2)) ?_
        refine l_eql rfl rfl rfl rfl ?_
        refine l_neqb Try.underlying4 rfl rfl rfl rfl ?_
        refine l_turn (s := 106) (v' := .bool false) rfl (by rw [show (s : Int).toNat = s from rfl, hAs]; by_cases hA : askP (l.take 100) i s <;> simp [hA] <;> omega) ?_
        refine l_move rfl rfl rfl ?_
        refine l_move rfl rfl rfl ?_
        first | refine l_notd rfl rfl rfl ?_ | refine l_not rfl rfl rfl ?_
        refine l_move rfl rfl rfl ?_
        apply l_and 4 [0, 3, 11, 12, 107] rfl rfl (.cons rfl (.cons rfl (.cons rfl (.cons rfl (.cons rfl (.cons rfl .nil)))))) rfl rfl (fun _ => rfl) rfl rfl rfl
        · intro hg26_10
          refine l_move rfl rfl rfl ?_
          refine l_move rfl rfl rfl ?_
          refine l_callp rfl rfl Try.func12 rfl rfl (.cons rfl (.cons rfl .nil)) (BuiltC b L1 hL1 (s : Int) _ (hw18.ok mem1) (hw18.ok mem2)) ?_
          refine l_neq rfl rfl rfl rfl ?_
          refine l_nil ?_
          exact e_stays rfl (.cons rfl (congrArg Value.bool (decide_eq_true hg26_10).symm) (.cons rfl rfl (.cons rfl rfl (.cons rfl rfl (.cons rfl rfl (.cons rfl rfl .nil))))))
        refine l_turn (s := 115) (v' := .bool false) rfl (by rw [decide_eq_false]; rintro ⟨h1, h2⟩; exact h2 (if_neg (fun h => h1 (by simpa [hAs] using h.2)))) ?_
        refine l_pick_f rfl rfl rfl rfl ?_
        refine l_move rfl rfl rfl ?_
        refine l_move rfl rfl rfl ?_
        refine l_move rfl rfl rfl ?_
        refine l_callp rfl rfl Try.func13 rfl rfl (.cons rfl (.cons rfl .nil)) (CompleteC b L1 hL1 (s : Int) _ (hw18.ok mem1) (hw18.ok mem2)) ?_
        refine l_move rfl rfl rfl ?_
        refine l_neqb Try.underlying4 rfl rfl rfl rfl ?_
        refine l_turn (s := 122) (v' := .bool false) rfl (by rw [show (s : Int).toNat = s from rfl, hAs]; by_cases hA : askP (l.take 100) i s <;> simp [hA] <;> omega) ?_
        refine l_pick_f rfl rfl rfl rfl ?_
        refine l_nil ?_
        refine e_then ?_
        refine c_keep [0, 3, 11, 123] (.cons rfl (.cons rfl (.cons rfl (.cons rfl .nil)))) ?_
        refine c_cond_f rfl rfl ?_
        refine c_skip ?_
        refine e_blk ?_
        refine e_then ?_
        refine c_keep [0, 3, 11] (.cons rfl (.cons rfl (.cons rfl .nil))) ?_
        refine c_region ?_
        refine l_move rfl rfl rfl ?_
        refine l_add rfl rfl rfl rfl (w_i64 (by omega)) ?_
        refine l_assign rfl rfl rfl ?_
        refine l_nil ?_
        refine e_againk (i := (s)) (s + 1) ?_ ?_ (.cons rfl (.cons rfl .nil)) ?_
        · first | omega | (simp; omega)
        · exact ⟨hw18, by omega⟩
        · exact (.cons rfl (by first | rfl | (refine congrArg (Value.int _) ?_; omega)) .nil)
    · skip
      refine c_exit ?_
      refine e_then_exit ?_
      refine e_then_exit ?_
      refine e_blk_exit ?_
      refine e_then ?_
      refine c_keep [] .nil ?_
      refine c_seq ?_
      refine c_region ?_
      refine l_assign rfl rfl rfl ?_
      refine l_nil ?_
      refine e_then ?_
      refine c_ret ?_
      refine e_done1 Try.results3 rfl ?_
      refine ⟨_, rfl, ?_⟩
      have hw19 := St.del (.tail (.tail .head)) hw17
      try clear hw17
      have hw20 := St.del (.tail .head) hw19
      try clear hw19
      have hw21 := St.del .head hw20
      try clear hw20
      exact ⟨rfl, hw21.grows⟩
end Go.Proofs.Ytggdkplphfofkaa.W
