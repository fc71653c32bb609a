/- Scopes whose gotos go forward: what follows a label is walked where the goto stands. -/
import Derived.Test.YtgfkagaacdblbaaGreatVf
import Derived.ScopeJumps
import Derived.Laws.StructEq
set_option linter.unusedVariables false
set_option linter.unusedSimpArgs false
namespace Go.Vc
open Go.RowKit
section
variable {P : Program} {c : Code} {Q : Post} {a : Act} {w : World}
end
section
variable {P : Program} {N : Nat} {c : Code} {Q : Post} {ρ : Env} {w : World} {n : Nat}
theorem v_lit0 {Q : Post} {ops : Array Oper} {rest : List Oper} {d : Nat} {ty : TypeId} {pos : String} {af : Array Edge} {g : Option (Nat × Bool)} {w0 : World} {B : Nat} {M : Nat → Prop} {σ : List As} {t e : TypeId} (hw : St w0 B M σ w) (hg : Z0t ops ρ g = true) (hN : Nat.blt d N = true) (hT : P.underlying t = some (.slice e)) (hsz : (P.info? e).map (·.size) = some 1)
  (n : ∀ v w', St w0 B M (As.ro e v [] :: σ) w' → RunL P N ops ⟨false, Q⟩ rest ((d, v) :: ρ) w') : RunL P N ops ⟨false, Q⟩ (⟨some d, .buildSlice t 0 #[], ty, pos, af, g⟩ :: rest) ρ w := by
 cases hq : P.info? e with
 | none => simp [hq] at hsz
 | some i =>
  have h1 : i.size = 1 := by simpa [hq] using hsz
  refine Z2k (v := .slice (some ⟨w.heap.size, 0, none⟩) 0 0) (fun h => by cases h) hg rfl hN (fun a ha => ?_) (n _ (w.alloc (.cells #[] e)) (hw.new _ _ ⟨by simp, .inr ⟨w.heap.size, 0, 0, #[], rfl, Nat.le_refl _, by simp, heap_alloc_new w _, by simp, by simp⟩⟩ fun k hk => ?_))
  ·simp [execOp, Instr.buildSlice, run_underlying hT, sizeOf, typeInfo, hq, h1, Instr.fill, newRow]
   rw [show ∀ f : Nat → Value, Array.map f (Array.range 0) = #[] from fun f => by apply Array.eq_empty_of_size_eq_zero; simp]
  simpa [As.own, Value.ownBlock] using hk.symm
def Z2V (P : Program) (t : TypeId) : Option (List (Nat × Nat)) :=
 match P.underlying t with
 | some (.struct fields) => fields.toList.mapM fun f => (P.info? f.type).map fun i => (f.offset, i.size)
 | _ => none
theorem places_run (w : World) : ∀ (fs : List Field) (pl : List (Nat × Nat)), (fs.mapM fun f => (P.info? f.type).map fun i => (f.offset, i.size)) = some pl → (fs.mapM fun f => do pure (f.offset, ← sizeOf f.type) : Sem (List (Nat × Nat))).run P w = .ok pl w
 | [], pl, h => by
  simp at h
  subst h
  rfl
 | f :: fs, pl, h => by
  rw [List.mapM_cons] at h ⊢
  cases hq : P.info? f.type with
  | none => simp [hq] at h
  | some i =>
   cases hr : (fs.mapM fun f => (P.info? f.type).map fun i => (f.offset, i.size)) with
   | none => simp [hq, hr] at h
   | some r =>
    simp [hq, hr] at h
    have ih := places_run w fs r hr
    simp only [Sem.run_bind, sizeOf, typeInfo, run_program, hq, Result.andThen_ok, Sem.run_pure] at ih ⊢
    rw [ih]
    simp [← h]
inductive Z39 (ρ : Env) (pl : List (Nat × Nat)) : List Value → List (Nat × Operand) → List Value → Prop
 | nil {cs : List Value} : Z39 ρ pl cs [] cs
 | one {i off : Nat} {x : Operand} {v : Value} {cs cs' cs'' : List Value} {ps : List (Nat × Operand)} (hi : pl[i]? = some (off, 1)) (hx : Z0g ρ x = some v) (h1 : v.oneCell' = true) (hs : Z1F cs off v cs') (t : Z39 ρ pl cs' ps cs'') : Z39 ρ pl cs ((i, x) :: ps) cs''
 | row {i off n : Nat} {x : Operand} {vs cs cs' cs'' : List Value} {ps : List (Nat × Operand)} (hi : pl[i]? = some (off, n)) (hx : Z0g ρ x = some (.agg vs.toArray)) (hn : vs.length = n) (hs : Z3u cs off vs cs') (t : Z39 ρ pl cs' ps cs'') : Z39 ρ pl cs ((i, x) :: ps) cs''
theorem set_row_fold : ∀ (vs : List Value) (off j : Nat) (cs : List Value), off + j + vs.length ≤ cs.length → (vs.zipIdx j).foldl (fun (a : Array Value) (p : Value × Nat) => a.setIfInBounds (off + p.2) p.1) cs.toArray = (cs.take (off + j) ++ vs ++ cs.drop (off + j + vs.length)).toArray
 | [], off, j, cs, h => by simp
 | v :: vs, off, j, cs, h => by
  simp only [List.length_cons] at h
  rw [List.zipIdx_cons, List.foldl_cons, List.setIfInBounds_toArray, set_row_fold vs off (j + 1) (cs.set (off + j) v) (by simp; omega)]
  congr 1
  rw [List.take_set, List.drop_set_of_lt ZO]
  have e1 : (cs.take (off + (j + 1))).set (off + j) v = cs.take (off + j) ++ [v] := by
   rw [show off + (j + 1) = off + j + 1 from by omega, List.take_succ_eq_append_getElem ZO, List.set_append_right _ _ (by simp; omega)]
   have : off + j - (cs.take (off + j)).length = 0 := by rw [List.length_take]; omega
   rw [this]
   rfl
  rw [e1]
  simp only [List.append_assoc, List.cons_append, List.nil_append, List.length_cons]
  rw [show off + (j + 1) + vs.length = off + j + (vs.length + 1) from by omega]
theorem Z39.fill {ρ : Env} {pl : List (Nat × Nat)} {cs cs' : List Value} {ps : List (Nat × Operand)} (h : Z39 ρ pl cs ps cs') {a : Act} (ha : Fits N ρ a) : Instr.fill (pl.toArray[·]?) cs.toArray (ps.map fun p => (p.1, a.eval p.2)) = some cs'.toArray := by
 induction h with
 | nil => rfl
 | @one i off x v cs cs' cs'' ps hi hx h1 hs t ih =>
  have hc : v.cells = #[v] := by cases v <;> first | rfl | (simp [Value.oneCell'] at h1; done)
  obtain ⟨e, hlt⟩ := hs.eq
  simp only [List.map_cons, Instr.fill, List.getElem?_toArray, hi, ha.eval hx, hc]
  have : ¬ (cs.length < off + 1) := by omega
  simp [this]
  simp at ih
  rw [← e]
  exact ih
 | @row i off n x vs cs cs' cs'' ps hi hx hn hs t ih =>
  have hc : (Value.agg vs.toArray).cells = vs.toArray := rfl
  obtain ⟨e, hle⟩ := hs.eq
  subst hn
  simp only [List.map_cons, Instr.fill, List.getElem?_toArray, hi, ha.eval hx, hc]
  have h2 : ¬ (cs.length < off + vs.length) := by omega
  have h3 := set_row_fold vs off 0 cs ZO
  simp only [Nat.add_zero] at h3
  simp [h2]
  simp at ih h3
  rw [h3, ← List.append_assoc, ← e]
  exact ih
theorem Z16 {Q : Z26} {ops : Array Oper} {rest : List Oper} {d : Nat} {ty : TypeId} {pos : String} {af : Array Edge} {g : Option (Nat × Bool)} {t : TypeId} {parts : List (Nat × Operand)} {pl : List (Nat × Nat)} {zs cs : List Value} (hg : Z0t ops ρ g = true) (hN : Nat.blt d N = true) (hpl : Z2V P t = some pl) (hz : (P.info? t).map (fun i => i.zero.map (·.cells.toList)) = some (some zs)) (hp : Z39 ρ pl zs parts cs)
  (n : RunL P N ops Q rest ((d, .agg cs.toArray) :: ρ) w) : RunL P N ops Q (⟨some d, .build t parts.toArray, ty, pos, af, g⟩ :: rest) ρ w :=
 Z1n hg rfl hN (fun a ha => by
  have h2 : (parts.toArray.map fun (p : Nat × Operand) => (p.1, a.eval p.2)) = (parts.map fun p => (p.1, a.eval p.2)).toArray := by simp
  have hf := hp.fill ha
  unfold Z2V at hpl
  cases hu : P.underlying t with
  | none => rw [hu] at hpl; cases hpl
  | some u =>
   rw [hu] at hpl
   cases u <;> try (cases hpl; done)
   rename_i fields
   have hm := places_run (P := P) w fields.toList pl hpl
   cases hq : P.info? t with
   | none => simp [hq] at hz
   | some inf =>
    cases hzz : inf.zero with
    | none => simp [hq, hzz] at hz
    | some z =>
     have hzs : z.cells = zs.toArray := by
      simp [hq, hzz] at hz
      rw [← hz]
     have hm2 : (fields.mapM fun f => do pure (f.offset, ← sizeOf f.type) : Sem (Array (Nat × Nat))).run P w = .ok pl.toArray w := by
      rw [← Array.toArray_toList (xs := fields), List.mapM_toArray]
      simp only [Sem.run_map, hm]
      rfl
     have hzv : (zeroValue t).run P w = .ok z w := by simp [zeroValue, typeInfo, hq, hzz]
     simp only [execOp]
     rw [h2]
     simp only [Instr.build, Sem.run_bind, hzv, Result.andThen_ok, run_underlying hu, hm2, hzs, List.toList_toArray, hf, Sem.run_pure]) n
def flatT (P : Program) (t : TypeId) : Option (List (Nat × TypeDesc)) :=
 if P.stoodInHeld t || P.eqGuardType P.depth t then none else
 match P.underlying t with
 | some (.struct fs) => fs.toList.mapM fun f => if f.name = "_" then none else (P.underlying f.type).map fun u => (f.offset, u)
 | _ => none
inductive Fl (cs ds : List Value) : List (Nat × TypeDesc) → Prop → Prop
 | nil : Fl cs ds [] True
 | bool {o : Nat} {a b : Bool} {l : List (Nat × TypeDesc)} {p : Prop} (h : cs[o]? = some (.bool a)) (k : ds[o]? = some (.bool b)) (t : Fl cs ds l p) : Fl cs ds ((o, .bool) :: l) (a = b ∧ p)
 | int {o : Nat} {kd : IntKind} {a b : Int} {l : List (Nat × TypeDesc)} {p : Prop} (h : cs[o]? = some (.int kd a)) (k : ds[o]? = some (.int kd b)) (t : Fl cs ds l p) : Fl cs ds ((o, .int kd) :: l) (a = b ∧ p)
 | str {o : Nat} {a b : List UInt8} {l : List (Nat × TypeDesc)} {p : Prop} (h : cs[o]? = some (str a)) (k : ds[o]? = some (str b)) (t : Fl cs ds l p) : Fl cs ds ((o, .string) :: l) (a = b ∧ p)
theorem Z2x {t : TypeId} {u : TypeDesc} {cs : List Value} {o : Nat} {v : Value} (hu : P.underlying t = some u) (hp : Z1V u = true) (h : cs[o]? = some v) (w : World) : (part t cs.toArray o).run P w = .ok v w := by
 have hi : (isAgg t).run P w = .ok false w := by
  simp only [isAgg, Sem.run_bind, run_underlying hu, Result.andThen_ok]
  cases u <;> simp_all [Z1V]
 have h2 : cs.toArray[o]? = some v := by rw [List.getElem?_toArray]; exact h
 simp only [part, Sem.run_bind, hi, Result.andThen_ok, Bool.false_eq_true, if_false, h2, Sem.run_pure]
theorem eqFields_flat (d : Nat) (w : World) {cs ds : List Value} : ∀ (fs : List Field) (pl : List (Nat × TypeDesc)) (p : Prop) (_ : Decidable p), (fs.mapM fun f => if f.name = "_" then none else (P.underlying f.type).map fun u => (f.offset, u)) = some pl → Fl cs ds pl p →
  (Op.eqFields (d + 1) cs.toArray ds.toArray fs).run P w = .ok (decide p) w
 | [], pl, p, hd, h, hf => by
  simp at h
  subst h
  cases hf
  simp [Op.eqFields]
 | f :: fs, pl, p, hd, h, hf => by
  rw [List.mapM_cons] at h
  by_cases hn : f.name = "_"
  ·simp [hn] at h
  cases hq : P.underlying f.type with
  | none => simp [hq, hn] at h
  | some u =>
   cases hr : (fs.mapM fun f => if f.name = "_" then none else (P.underlying f.type).map fun u => (f.offset, u)) with
   | none => simp [hq, hr, hn] at h
   | some r =>
    simp [hq, hr, hn] at h
    subst h
    have step : ∀ (q : Prop) (a b : Value) (e : Bool), (part f.type cs.toArray f.offset).run P w = .ok a w → (part f.type ds.toArray f.offset).run P w = .ok b w → (Op.equalIn (d + 1) f.type a b).run P w = .ok e w → Fl cs ds r q →
      (Op.eqFields (d + 1) cs.toArray ds.toArray (f :: fs)).run P w = .ok (e && @decide q (Classical.propDecidable q)) w := by
     intro q a b e h1 h2 h3 h4
     have ih := eqFields_flat d w fs r q (Classical.propDecidable q) hr h4
     simp only [Op.eqFields, if_pos hn, Sem.run_bind, h1, h2, h3, Result.andThen_ok, ne_eq]
     cases e
     ·simp
     simp [ih]
    cases hf with
    | @bool o a b l p h k t =>
     rw [step _ _ _ (a == b) (Z2x hq rfl h w) (Z2x hq rfl k w) (run_equalIn_bool w d _ _ _ hq) t]
     congr 1
     rw [Bool.eq_iff_iff]
     simp
    | @int o kd a b l p h k t =>
     rw [step _ _ _ (a == b) (Z2x hq rfl h w) (Z2x hq rfl k w) (run_equalIn_int w d _ _ _ _ _ hq) t]
     congr 1
     rw [Bool.eq_iff_iff]
     simp
    | @str o a b l p h k t =>
     rw [step _ _ _ (a == b) (Z2x hq rfl h w) (Z2x hq rfl k w) (by rw [run_equalIn_string w d _ _ _ hq]; simp [str_toList]) t]
     congr 1
     rw [Bool.eq_iff_iff]
     simp
theorem eql_flat {t : TypeId} {pl : List (Nat × TypeDesc)} {cs ds : List Value} {p : Prop} (hdp : Decidable p) (hF : flatT P t = some pl) (hf : Fl cs ds pl p) (w : World) : (Op.equalIn 10000 t (.agg cs.toArray) (.agg ds.toArray)).run P w = .ok (decide p) w ∧ P.eqGuardType P.depth t = false := by
 unfold flatT at hF
 split at hF
 ·cases hF
 rename_i hg
 simp only [Bool.or_eq_true, not_or, Bool.not_eq_true] at hg
 refine ⟨?_, hg.2⟩
 cases hu : P.underlying t with
 | none => rw [hu] at hF; cases hF
 | some u =>
  rw [hu] at hF
  cases u <;> try (cases hF; done)
  rename_i fs
  have hfo : P.fieldsOf t = fs := by simp [Program.fieldsOf, hu]
  rw [show (10000 : Nat) = 9999 + 1 from rfl, run_equalIn_struct w 9999 t _ _ (by rw [hfo]; exact hu) hg.1, hfo]
  exact eqFields_flat 9998 w fs.toList pl p _ hF hf
theorem l_eqlA {Q : Z26} {ops : Array Oper} {rest : List Oper} {d : Nat} {ty : TypeId} {pos : String} {af : Array Edge} {g : Option (Nat × Bool)} {x y : Operand} {t U : TypeId} {pl : List (Nat × TypeDesc)} {cs ds : List Value} {p : Prop} [hdp : Decidable p] (hg : Z0t ops ρ g = true) (hN : Nat.blt d N = true) (hF : flatT P t = some pl) (hx : Z0g ρ x = some (.agg cs.toArray)) (hy : Z0g ρ y = some (.agg ds.toArray)) (hf : Fl cs ds pl p)
  (n : RunL P N ops Q rest ((d, .bool (decide p)) :: ρ) w) : RunL P N ops Q (⟨some d, .binOp .eql t x y U, ty, pos, af, g⟩ :: rest) ρ w :=
 Z1n hg rfl hN (fun a ha => by
  obtain ⟨h1, h2⟩ := eql_flat hdp hF hf w
  have hgd := run_eqGuard_agg w .eql t x y cs.toArray ds.toArray h2
  simp only [execOp, ha.eval hx, ha.eval hy, Sem.run_bind, hgd, Result.andThen_ok, run_eql_struct, h1, Sem.run_pure]) n
theorem l_neqA {Q : Z26} {ops : Array Oper} {rest : List Oper} {d : Nat} {ty : TypeId} {pos : String} {af : Array Edge} {g : Option (Nat × Bool)} {x y : Operand} {t U : TypeId} {pl : List (Nat × TypeDesc)} {cs ds : List Value} {p : Prop} [hdp : Decidable p] (hg : Z0t ops ρ g = true) (hN : Nat.blt d N = true) (hF : flatT P t = some pl) (hx : Z0g ρ x = some (.agg cs.toArray)) (hy : Z0g ρ y = some (.agg ds.toArray)) (hf : Fl cs ds pl p)
  (n : RunL P N ops Q rest ((d, .bool (decide (¬ p))) :: ρ) w) : RunL P N ops Q (⟨some d, .binOp .neq t x y U, ty, pos, af, g⟩ :: rest) ρ w :=
 Z1n hg rfl hN (fun a ha => by
  obtain ⟨h1, h2⟩ := eql_flat hdp hF hf w
  have hgd := run_eqGuard_agg w .neq t x y cs.toArray ds.toArray h2
  simp only [execOp, ha.eval hx, ha.eval hy, Sem.run_bind, hgd, Result.andThen_ok, run_neq_struct, h1, Sem.run_pure]
  congr 3
  simp) n
end
end Go.Vc
