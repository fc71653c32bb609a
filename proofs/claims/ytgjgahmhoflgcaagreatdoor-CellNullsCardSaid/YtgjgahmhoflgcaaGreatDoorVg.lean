/- Scopes whose gotos go forward: what follows a label is walked where the goto stands. -/
import Derived.Test.YtgjgahmhoflgcaaGreatDoorVf
import Derived.ScopeJumps
import Derived.Laws.StructEq
set_option linter.unusedVariables false
set_option linter.unusedSimpArgs false
namespace Go.Vc
open Go.RowKit
def FJ (P : Program) (c : Code) (Q : Post) : Nat → Post
 | n + 1, .goto l, a, w => ∃ rest, findLabel c l = some rest ∧ rest.wp P (FJ P c Q n) a w
 | 0, .goto _, _, _ => False
 | _, e, a, w => Q e a w
section
variable {P : Program} {c : Code} {Q : Post} {a : Act} {w : World}
theorem fj_from (b : Frame) (k : List Item) (cs : List Frame) : ∀ (n : Nat) (rest : Code) (a : Act) (w : World), rest.wp P (FJ P c Q n) a w →
  ∃ e a' w', Q e a' w' ∧ Arrives P (lone (b.at a (.code rest :: .inScope c :: k)) cs w) b k cs e a' w' := by
 intro n
 induction n with
 | zero =>
  intro rest a w h
  obtain ⟨e, a₁, w₁, hq, harr⟩ := h b (.inScope c :: k) cs
  cases e with
  | normal => exact ⟨.normal, a₁, w₁, hq, Steps.trans harr (.one step_inScope)⟩
  | exit id => exact ⟨.exit id, a₁, w₁, hq, fun k' hk => harr k' (by simp [exitTo, hk])⟩
  | goto l' => exact hq.elim
  | ret => exact ⟨_, a₁, w₁, hq, harr⟩
  | panic ch => exact ⟨_, a₁, w₁, hq, harr⟩
  | outgrown => exact ⟨_, a₁, w₁, hq, harr⟩
 | succ n ih =>
  intro rest a w h
  obtain ⟨e, a₁, w₁, hq, harr⟩ := h b (.inScope c :: k) cs
  cases e with
  | normal => exact ⟨.normal, a₁, w₁, hq, Steps.trans harr (.one step_inScope)⟩
  | exit id => exact ⟨.exit id, a₁, w₁, hq, fun k' hk => harr k' (by simp [exitTo, hk])⟩
  | goto l' =>
   obtain ⟨rest', hf, hr⟩ := hq
   have hg : gotoIn l' (.inScope c :: k) = some (.code rest' :: .inScope c :: k) := by simp [gotoIn, hf]
   obtain ⟨e₂, a₂, w₂, hq₂, harr₂⟩ := ih rest' a₁ w₁ hr
   exact ⟨e₂, a₂, w₂, hq₂, .of_steps (harr _ hg) harr₂⟩
  | ret => exact ⟨_, a₁, w₁, hq, harr⟩
  | panic ch => exact ⟨_, a₁, w₁, hq, harr⟩
  | outgrown => exact ⟨_, a₁, w₁, hq, harr⟩
theorem wp_scope_fj (n : Nat) (h : c.wp P (FJ P c Q n) a w) : (Code.scope c).wp P Q a w := by
 intro b k cs
 obtain ⟨e, a₁, w₁, hq, harr⟩ := fj_from b k cs n c a w h
 exact ⟨e, a₁, w₁, hq, .of_steps (.one step_scope) harr⟩
end
section
variable {P : Program} {N : Nat} {c : Code} {Q : Post} {ρ : Env} {w : World} {n : Nat}
theorem c_scope (n : Nat) (h : RunC P N c (FJ P c Q n) ρ w) : RunC P N (.scope c) Q ρ w := fun a ha => wp_scope_fj n (h a ha)
theorem c_goto {l : Nat} (h : RunE N (.goto l) Q ρ w) : RunC P N (.goto l) Q ρ w := fun a ha => wp_goto (h a ha)
theorem Z5d (h : RunE N .ret Q ρ w) : RunE N .ret (FJ P c Q n) ρ w := fun a ha => by cases n <;> exact h a ha
theorem Z6A {l : Nat} {rest : Code} (hf : findLabel c l = some rest) (h : RunC P N rest (FJ P c Q n) ρ w) : RunE N (.goto l) (FJ P c Q (n + 1)) ρ w := fun a ha => ⟨rest, hf, h a ha⟩
theorem v_arr {Q : Z26} {ops : Array Oper} {rest : List Oper} {d : Nat} {ty : TypeId} {pos : String} {af : Array Edge} {x : Operand} {v : Value} {cs : List Value} {t e : TypeId} {m : Nat} {d' : Nat} {ty' : TypeId} {pos' : String} {af' : Array Edge}
  (hN : Nat.blt d N = true) (hN' : Nat.blt d' N = true) (hT : P.underlying t = some (.array m e)) (hsz : (P.info? t).map (·.size) = some m) (hx : Z0g ρ x = some v) (hv : IV w v cs) (hm : cs.length = m) (hp : 0 < m) (hd : (ρ.get d).isNone = true)
  (n : RunL P N ops Q rest ((d', .agg cs.toArray) :: ρ) w) : RunL P N ops Q (⟨some d, .sliceToArrayPointer t x, ty, pos, af, none⟩ :: ⟨some d', .load t (.tmp d), ty', pos', af', none⟩ :: rest) ρ w := by
 obtain ⟨A, c, rfl, hc, hs⟩ := hv
 obtain ⟨ad, rfl⟩ := hs.some_ ZO
 subst hm
 refine Z1n (v := .pointer (some ad)) rfl rfl hN (fun a ha => by simp [execOp, ha.eval hx, Instr.arrayAt, run_underlying hT]) ?_
 have hl : (loadCells ad cs.length).run P w = .ok cs.toArray w := run_loadCells_list (P := P) w _ cs fun j v hj => by
  obtain ⟨ad', e, h⟩ := hs j v hj
  cases e
  exact h
 have hi : (isAgg t).run P w = .ok true w := by simp [isAgg, run_underlying hT]
 refine Z1n (v := .agg cs.toArray) rfl rfl hN' (fun a ha => ?_) fun a ha => n a ⟨ha.1, ha.2.1, fun s u hs => ha.2.2 s u ?_⟩
 ·cases hq : P.info? t with
  | none => simp [hq] at hsz
  | some inf =>
   have h1 : inf.size = cs.length := by simpa [hq] using hsz
   have hl2 : (loadVar t ad).run P w = .ok (.agg cs.toArray) w := by simp [loadVar, hi, sizeOf, typeInfo, hq, h1, hl]
   simp [execOp, ha.eval (show Z0g _ (.tmp d) = some (.pointer (some ad)) by simp [Z0g, Env.get_cons]), Instr.loadAt, Instr.sureAddr, hl2]
 rw [Env.get_cons] at hs ⊢
 split at hs
 ·rename_i e; rw [if_pos e]; exact hs
 rename_i e
 rw [if_neg e, Env.get_cons]
 split
 ·rename_i e2; subst e2; rw [hs] at hd; cases hd
 exact hs
theorem l_elemb {Q : Z26} {ops : Array Oper} {rest : List Oper} {d : Nat} {ty : TypeId} {pos : String} {af : Array Edge} {g : Option (Nat × Bool)} {x ix : Operand} {l : List UInt8} {k : IntKind} {i : Int} {j m : Nat} {T e : TypeId}
  (hg : Z0t ops ρ g = true) (hN : Nat.blt d N = true) (hT : P.underlying T = some (.array m e)) (he : P.underlying e = some (.int .u8)) (hsz : (P.info? e).map (·.size) = some 1) (hx : Z0g ρ x = some (.agg (bys l).toArray)) (hi : Z0g ρ ix = some (.int k i)) (hij : i = (j : Int)) (hb : j < l.length) (hm : l.length = m)
  (n : (0 : Int) ≤ (l.getD j 0).toNat ∧ ((l.getD j 0).toNat : Int) ≤ 255 → RunL P N ops Q rest ((d, .int .u8 ((l.getD j 0).toNat : Int)) :: ρ) w) : RunL P N ops Q (⟨some d, .index T x ix, ty, pos, af, g⟩ :: rest) ρ w := by
 subst hij
 refine Z1n hg rfl hN (fun a ha => ?_) (n (by have := UInt8.toNat_lt (l.getD j 0); omega))
 have hag : (isAgg e).run P w = .ok false w := by simp [isAgg, run_underlying he]
 have hjm : j < m := by omega
 have hc : (bys l).toArray[j]? = some (.int .u8 ((l.getD j 0).toNat : Int)) := by rw [List.getElem?_toArray]; exact Z77 l j hb
 cases hq : P.info? e with
 | none => simp [hq] at hsz
 | some inf =>
  have h1 : inf.size = 1 := by simpa [hq] using hsz
  simp only [execOp, ha.eval hx, ha.eval hi, Instr.index, asIntOf, Sem.run_bind, Sem.run_pure, Result.andThen_ok, run_underlying hT]
  rw [if_pos ZO]
  simp only [sizeOf, typeInfo, Sem.run_bind, Sem.run_pure, Result.andThen_ok, run_program, hq, h1, Nat.mul_one, Int.toNat_natCast, part, hag]
  simp [hc]
theorem Z61 {K : Act → World → Prop} {l : Nat} (h : RunE N (.goto l) Q ρ w) : RunE N (.goto l) (Exit.then K Q) ρ w := h
theorem l_mark {Q : Post} {ops : Array Oper} {rest : List Oper} {d : Nat} {ty : TypeId} {pos : String} {af : Array Edge} {g : Option (Nat × Bool)} {w0 : World} {B : Nat} {M : Nat → Prop} {σ : List As} {x : Operand} {T e E : TypeId} {b n' : Nat} {cs : List Value} (hw : St w0 B M (As.blk b E cs :: σ) w) (hg : Z0t ops ρ g = true) (hN : Nat.blt d N = true) (hT : P.underlying T = some (.slice e)) (he : P.underlying e = some (.int .u8)) (hx : Z0g ρ x = some (.slice (some ⟨b, 0, none⟩) n' n')) (hn : cs.length = n')
  (n : ∀ v w', St w0 B M (As.iv v cs :: σ) w' → RunL P N ops ⟨false, Q⟩ rest ((d, v) :: ρ) w') : RunL P N ops ⟨false, Q⟩ (⟨some d, .convert T T x, ty, pos, af, g⟩ :: rest) ρ w := by
 subst hn
 have hb : w.heap[b]? = some (.cells cs.toArray E (0, 0)) := hw.ok mem0
 have hlt : b < w.heap.size := (Array.getElem?_eq_some_iff.1 hb).1
 have hsh : w.shape? b = some (E, cs.length) := by simp [World.shape?, hb]
 have hb2 : (w.freeze { block := b, off := cs.length } 1).heap[b]? = some (.cells cs.toArray E (cs.length, cs.length + 1)) := by
  simp [World.freeze, Array.getElem?_modify, hb]
 refine Z2k (w' := w.freeze { block := b, off := cs.length } 1) (v := .slice (some ⟨b, 0, none⟩) cs.length cs.length) (fun h => by cases h) hg rfl hN (fun a ha => ?_) (n _ _ ?_)
 ·simp [execOp, ha.eval hx, convert, run_underlying hT, run_underlying he, markStringish, hsh]
 refine hw.upd .head (w' := w.freeze { block := b, off := cs.length } 1) ⟨rfl, rfl, rfl, by simp [World.freeze], fun k hk hm => ?_⟩ ⟨some ⟨b, 0, none⟩, cs.length, rfl, Nat.le_refl _, fun j v hj => ⟨_, rfl, ?_⟩⟩ fun k hk => ?_
 ·have : ¬ b = k := fun h => hm h.symm
  simp [World.freeze, Array.getElem?_modify, this]
 ·rw [Z2p, Nat.zero_add, cell_of_row _ b _ cs.toArray E (cs.length, cs.length + 1) hb2]
  simpa using hj
 have : b = k := by simpa [As.iv, Value.ownBlock] using hk
 subst this
 exact ⟨.inl rfl, by simp [World.freeze]; exact hlt⟩
theorem v_lit0 {Q : Post} {ops : Array Oper} {rest : List Oper} {d : Nat} {ty : TypeId} {pos : String} {af : Array Edge} {g : Option (Nat × Bool)} {w0 : World} {B : Nat} {M : Nat → Prop} {σ : List As} {t e : TypeId} (hw : St w0 B M σ w) (hg : Z0t ops ρ g = true) (hN : Nat.blt d N = true) (hT : P.underlying t = some (.slice e)) (hsz : (P.info? e).map (·.size) = some 1)
  (n : ∀ v w', St w0 B M (As.ro e v [] :: σ) w' → RunL P N ops ⟨false, Q⟩ rest ((d, v) :: ρ) w') : RunL P N ops ⟨false, Q⟩ (⟨some d, .buildSlice t 0 #[], ty, pos, af, g⟩ :: rest) ρ w := by
 cases hq : P.info? e with
 | none => simp [hq] at hsz
 | some i =>
  have h1 : i.size = 1 := by simpa [hq] using hsz
  refine Z2k (v := .slice (some ⟨w.heap.size, 0, none⟩) 0 0) (fun h => by cases h) hg rfl hN (fun a ha => ?_) (n _ (w.alloc (.cells #[] e)) (hw.new _ _ ⟨by simp, .inr ⟨w.heap.size, 0, 0, #[], rfl, Nat.le_refl _, by simp, heap_alloc_new w _, by simp, by simp⟩⟩ fun k hk => ?_))
  ·simp [execOp, Instr.buildSlice, run_underlying hT, sizeOf, typeInfo, hq, h1, Instr.fill, newRow]
   rw [show ∀ f : Nat → Value, Array.map f (Array.range 0) = #[] from fun f => by apply Array.eq_empty_of_size_eq_zero; simp]
  simpa [As.own, Value.ownBlock] using hk.symm
def Z2V (P : Program) (t : TypeId) : Option (List (Nat × Nat)) :=
 match P.underlying t with
 | some (.struct fields) => fields.toList.mapM fun f => (P.info? f.type).map fun i => (f.offset, i.size)
 | _ => none
theorem places_run (w : World) : ∀ (fs : List Field) (pl : List (Nat × Nat)), (fs.mapM fun f => (P.info? f.type).map fun i => (f.offset, i.size)) = some pl → (fs.mapM fun f => do pure (f.offset, ← sizeOf f.type) : Sem (List (Nat × Nat))).run P w = .ok pl w
 | [], pl, h => by
  simp at h
  subst h
  rfl
 | f :: fs, pl, h => by
  rw [List.mapM_cons] at h ⊢
  cases hq : P.info? f.type with
  | none => simp [hq] at h
  | some i =>
   cases hr : (fs.mapM fun f => (P.info? f.type).map fun i => (f.offset, i.size)) with
   | none => simp [hq, hr] at h
   | some r =>
    simp [hq, hr] at h
    have ih := places_run w fs r hr
    simp only [Sem.run_bind, sizeOf, typeInfo, run_program, hq, Result.andThen_ok, Sem.run_pure] at ih ⊢
    rw [ih]
    simp [← h]
inductive Z39 (ρ : Env) (pl : List (Nat × Nat)) : List Value → List (Nat × Operand) → List Value → Prop
 | nil {cs : List Value} : Z39 ρ pl cs [] cs
 | one {i off : Nat} {x : Operand} {v : Value} {cs cs' cs'' : List Value} {ps : List (Nat × Operand)} (hi : pl[i]? = some (off, 1)) (hx : Z0g ρ x = some v) (h1 : v.oneCell' = true) (hs : Z1F cs off v cs') (t : Z39 ρ pl cs' ps cs'') : Z39 ρ pl cs ((i, x) :: ps) cs''
 | row {i off n : Nat} {x : Operand} {vs cs cs' cs'' : List Value} {ps : List (Nat × Operand)} (hi : pl[i]? = some (off, n)) (hx : Z0g ρ x = some (.agg vs.toArray)) (hn : vs.length = n) (hs : Z3u cs off vs cs') (t : Z39 ρ pl cs' ps cs'') : Z39 ρ pl cs ((i, x) :: ps) cs''
theorem set_row_fold : ∀ (vs : List Value) (off j : Nat) (cs : List Value), off + j + vs.length ≤ cs.length → (vs.zipIdx j).foldl (fun (a : Array Value) (p : Value × Nat) => a.setIfInBounds (off + p.2) p.1) cs.toArray = (cs.take (off + j) ++ vs ++ cs.drop (off + j + vs.length)).toArray
 | [], off, j, cs, h => by simp
 | v :: vs, off, j, cs, h => by
  simp only [List.length_cons] at h
  rw [List.zipIdx_cons, List.foldl_cons, List.setIfInBounds_toArray, set_row_fold vs off (j + 1) (cs.set (off + j) v) (by simp; omega)]
  congr 1
  rw [List.take_set, List.drop_set_of_lt ZO]
  have e1 : (cs.take (off + (j + 1))).set (off + j) v = cs.take (off + j) ++ [v] := by
   rw [show off + (j + 1) = off + j + 1 from by omega, List.take_succ_eq_append_getElem ZO, List.set_append_right _ _ (by simp; omega)]
   have : off + j - (cs.take (off + j)).length = 0 := by rw [List.length_take]; omega
   rw [this]
   rfl
  rw [e1]
  simp only [List.append_assoc, List.cons_append, List.nil_append, List.length_cons]
  rw [show off + (j + 1) + vs.length = off + j + (vs.length + 1) from by omega]
theorem Z39.fill {ρ : Env} {pl : List (Nat × Nat)} {cs cs' : List Value} {ps : List (Nat × Operand)} (h : Z39 ρ pl cs ps cs') {a : Act} (ha : Fits N ρ a) : Instr.fill (pl.toArray[·]?) cs.toArray (ps.map fun p => (p.1, a.eval p.2)) = some cs'.toArray := by
 induction h with
 | nil => rfl
 | @one i off x v cs cs' cs'' ps hi hx h1 hs t ih =>
  have hc : v.cells = #[v] := by cases v <;> first | rfl | (simp [Value.oneCell'] at h1; done)
  obtain ⟨e, hlt⟩ := hs.eq
  simp only [List.map_cons, Instr.fill, List.getElem?_toArray, hi, ha.eval hx, hc]
  have : ¬ (cs.length < off + 1) := by omega
  simp [this]
  simp at ih
  rw [← e]
  exact ih
 | @row i off n x vs cs cs' cs'' ps hi hx hn hs t ih =>
  have hc : (Value.agg vs.toArray).cells = vs.toArray := rfl
  obtain ⟨e, hle⟩ := hs.eq
  subst hn
  simp only [List.map_cons, Instr.fill, List.getElem?_toArray, hi, ha.eval hx, hc]
  have h2 : ¬ (cs.length < off + vs.length) := by omega
  have h3 := set_row_fold vs off 0 cs ZO
  simp only [Nat.add_zero] at h3
  simp [h2]
  simp at ih h3
  rw [h3, ← List.append_assoc, ← e]
  exact ih
theorem Z16 {Q : Z26} {ops : Array Oper} {rest : List Oper} {d : Nat} {ty : TypeId} {pos : String} {af : Array Edge} {g : Option (Nat × Bool)} {t : TypeId} {parts : List (Nat × Operand)} {pl : List (Nat × Nat)} {zs cs : List Value} (hg : Z0t ops ρ g = true) (hN : Nat.blt d N = true) (hpl : Z2V P t = some pl) (hz : (P.info? t).map (fun i => i.zero.map (·.cells.toList)) = some (some zs)) (hp : Z39 ρ pl zs parts cs)
  (n : RunL P N ops Q rest ((d, .agg cs.toArray) :: ρ) w) : RunL P N ops Q (⟨some d, .build t parts.toArray, ty, pos, af, g⟩ :: rest) ρ w :=
 Z1n hg rfl hN (fun a ha => by
  have h2 : (parts.toArray.map fun (p : Nat × Operand) => (p.1, a.eval p.2)) = (parts.map fun p => (p.1, a.eval p.2)).toArray := by simp
  have hf := hp.fill ha
  unfold Z2V at hpl
  cases hu : P.underlying t with
  | none => rw [hu] at hpl; cases hpl
  | some u =>
   rw [hu] at hpl
   cases u <;> try (cases hpl; done)
   rename_i fields
   have hm := places_run (P := P) w fields.toList pl hpl
   cases hq : P.info? t with
   | none => simp [hq] at hz
   | some inf =>
    cases hzz : inf.zero with
    | none => simp [hq, hzz] at hz
    | some z =>
     have hzs : z.cells = zs.toArray := by
      simp [hq, hzz] at hz
      rw [← hz]
     have hm2 : (fields.mapM fun f => do pure (f.offset, ← sizeOf f.type) : Sem (Array (Nat × Nat))).run P w = .ok pl.toArray w := by
      rw [← Array.toArray_toList (xs := fields), List.mapM_toArray]
      simp only [Sem.run_map, hm]
      rfl
     have hzv : (zeroValue t).run P w = .ok z w := by simp [zeroValue, typeInfo, hq, hzz]
     simp only [execOp]
     rw [h2]
     simp only [Instr.build, Sem.run_bind, hzv, Result.andThen_ok, run_underlying hu, hm2, hzs, List.toList_toArray, hf, Sem.run_pure]) n
inductive Fl (cs ds : List Value) : List (Nat × TypeDesc) → Prop → Prop
 | nil : Fl cs ds [] True
 | bool {o : Nat} {a b : Bool} {l : List (Nat × TypeDesc)} {p : Prop} (h : cs[o]? = some (.bool a)) (k : ds[o]? = some (.bool b)) (t : Fl cs ds l p) : Fl cs ds ((o, .bool) :: l) (a = b ∧ p)
 | int {o : Nat} {kd : IntKind} {a b : Int} {l : List (Nat × TypeDesc)} {p : Prop} (h : cs[o]? = some (.int kd a)) (k : ds[o]? = some (.int kd b)) (t : Fl cs ds l p) : Fl cs ds ((o, .int kd) :: l) (a = b ∧ p)
 | str {o : Nat} {a b : List UInt8} {l : List (Nat × TypeDesc)} {p : Prop} (h : cs[o]? = some (str a)) (k : ds[o]? = some (str b)) (t : Fl cs ds l p) : Fl cs ds ((o, .string) :: l) (a = b ∧ p)
theorem St.ro_iv {w0 : World} {B : Nat} {M : Nat → Prop} {σ : List As} {E : TypeId} {v : Value} {cs : List Value} (hw : St w0 B M (As.ro E v cs :: σ) w) : St w0 B M (As.iv v cs :: σ) w := hw.as .head (fun k h => h) fun w h => h.iv
theorem St.iv_cut {w0 : World} {B : Nat} {M : Nat → Prop} {σ : List As} {v v' : Value} {cs ds : List Value} (hw : St w0 B M (As.iv v cs :: σ) w) (h : IV w v' ds) (ho : v'.ownBlock = v.ownBlock) : St w0 B M (As.iv v' ds :: σ) w :=
 hw.upd .head (.refl _ _ _) h fun k hk => ⟨.inl (show v.ownBlock = some k from ho ▸ hk), hw.sep.lt mem0 k (show v.ownBlock = some k from ho ▸ hk) |>.2⟩
end
end Go.Vc
