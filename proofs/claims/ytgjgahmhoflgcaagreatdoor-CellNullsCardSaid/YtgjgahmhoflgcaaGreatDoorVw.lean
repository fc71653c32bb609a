/- The words that the printed walks use: entry, loops, cuts where ways meet, a function's end. -/
import Derived.Test.YtgjgahmhoflgcaaGreatDoorVt
set_option linter.unusedVariables false
set_option linter.unusedSimpArgs false
namespace Go.Vc
open Go.RowKit
theorem Env.get_append {ρ ρc : Env} {s : Nat} {v : Value} (h : Env.get (ρ ++ ρc) s = some v) : ρ.get s = some v ∨ ρc.get s = some v := by
 induction ρ with
 | nil => exact .inr h
 | cons p r ih =>
  obtain ⟨t, u⟩ := p
  rw [List.cons_append, Env.get_cons] at h
  rw [Env.get_cons]
  split at h
  ·rename_i e; rw [if_pos e]; exact .inl h
  rename_i e; rw [if_neg e]; exact ih h
theorem Fits.app {N : Nat} {ρ ρ' ρc : Env} {a : Act} (h : Fits N ρ a) (h1 : Z2l ρ ρ') (h2 : Z2l ρ ρc) : Fits N (ρ' ++ ρc) a :=
 ⟨h.1, h.2.1, fun s v hs => (Env.get_append hs).elim (fun e => h.2.2 s v (h1.get s v e)) fun e => h.2.2 s v (h2.get s v e)⟩
section
variable {P : Program} {N : Nat} {ops : Array Oper} {Q : Post} {ρ ρc : Env} {w w0 : World} {B : Nat} {M : Nat → Prop} {σ σ' : List As}
theorem Z0o {f : FuncId} {fn : Func} {c : Code} {args : List Value} {R : Value → World → Prop} (hf : P.funcs[f]? = some fn) (hb : fn.body = some c) (hn : fn.ntmps = N)
  (hN : Nat.ble args.length N = true) (n : RunC P N c (bodyPost P fn (fun e w' => ∃ v, e = .returned v ∧ R v w')) (args0 0 args) w) : Z0f P f args w R := by
 subst hn
 exact enterV hf hb hN n
theorem Z0z {ι : Type} (μ : ι → Nat) (pre : ι → World → Prop) (ρ' : ι → Env) (ks : List Nat) {c : Code} (i0 : ι) (h0 : pre i0 w) (hk : Keep ρ ks ρc) (hc : Z2l ρ (ρ' i0))
  (body : ∀ i w', pre i w' → RunC P N c (Exit.then (fun a w'' => ∃ i', μ i' < μ i ∧ pre i' w'' ∧ Fits N (ρ' i' ++ ρc) a) Q) (ρ' i ++ ρc) w') : RunC P N (.loop c) Q ρ w := fun a ha => by
 refine wp_loop_ghost (fun n a w => ∃ i, μ i = n ∧ pre i w ∧ Fits N (ρ' i ++ ρc) a) (μ i0) ⟨i0, rfl, h0, ha.app hc hk.covers⟩ ?_
 rintro n a w ⟨i, rfl, hp, hf⟩
 refine wp_mono (body i w hp a hf) fun e a' w' q => ?_
 cases e with
 | normal => obtain ⟨i', hlt, hp', hf'⟩ := q; exact ⟨μ i', hlt, i', rfl, hp', hf'⟩
 | exit id => exact q
 | goto l => exact q
 | ret => exact q
 | panic ch => exact q
 | outgrown => exact q
theorem Z0p {ι : Type} {μ : ι → Nat} {pre : ι → World → Prop} {ρ' : ι → Env} {i : ι} {ks : List Nat} (i' : ι) (hlt : μ i' < μ i) (hp : pre i' w) (hk : Keep ρ ks ρc) (hc : Z2l ρ (ρ' i')) :
  RunE N .normal (Exit.then (fun a w'' => ∃ i', μ i' < μ i ∧ pre i' w'' ∧ Fits N (ρ' i' ++ ρc) a) Q) ρ w := fun a ha => ⟨i', hlt, hp, ha.app hc hk.covers⟩
theorem Z1q {ι : Type} (pre : ι → World → Prop) (ρ' : ι → Env) (ks : List Nat) {x y : Code} (hk : Keep ρ ks ρc)
  (hx : RunC P N x (Exit.then (fun a w' => ∃ i, pre i w' ∧ Fits N (ρ' i ++ ρc) a) Q) ρ w) (hy : ∀ i w', pre i w' → RunC P N y Q (ρ' i ++ ρc) w') : RunC P N (.seq x y) Q ρ w := fun a ha =>
 wp_seq (wp_mono (hx a ha) fun e a' w' q => by
  cases e with
  | normal => obtain ⟨i, hp, hf⟩ := q; exact hy i w' hp a' hf
  | exit id => exact q
  | goto l => exact q
  | ret => exact q
  | panic ch => exact q
  | outgrown => exact q)
theorem Z0w {ι : Type} {pre : ι → World → Prop} {ρ' : ι → Env} {ks : List Nat} (i : ι) (hp : pre i w) (hk : Keep ρ ks ρc) (hc : Z2l ρ (ρ' i)) : RunE N .normal (Exit.then (fun a w' => ∃ i, pre i w' ∧ Fits N (ρ' i ++ ρc) a) Q) ρ w :=
 fun a ha => ⟨i, hp, ha.app hc hk.covers⟩
inductive ResV (P : Program) (w : World) (ρ : Env) : List ResultVar → List Value → Prop
 | nil : ResV P w ρ [] []
 | tmp {t : Nat} {v : Value} {rs : List ResultVar} {vs : List Value} (h : ρ.get t = some v) (r : ResV P w ρ rs vs) : ResV P w ρ (.tmp t :: rs) (v :: vs)
 | cell {t : Nat} {T : TypeId} {ad : Addr} {v : Value} {rs : List ResultVar} {vs : List Value} (h : ρ.get t = some (.pointer (some ad))) (hl : (loadVar T ad).run P w = .ok v w) (r : ResV P w ρ rs vs) : ResV P w ρ (.cell t T :: rs) (v :: vs)
def Z4m (tmps : Array Value) : ResultVar → Sem Value
 | .tmp t => pure (tmps.getD t undef)
 | .cell a t => do loadVar t (← asAddr (tmps.getD a undef))
theorem results_eq (fn : Func) (tmps : Array Value) : results fn tmps = (do
  let vs ← fn.results.mapM (Z4m tmps)
  pure (if h : vs.size = 1 then vs[0] else .tuple vs)) := by
 unfold results
 congr 1
theorem ResV.list {a : Act} (ha : Fits N ρ a) {rs : List ResultVar} {vs : List Value} (h : ResV P w ρ rs vs) : (rs.mapM (Z4m a.tmps)).run P w = .ok vs w := by
 induction h with
 | nil => rfl
 | @tmp t v rs vs h r ih =>
  have h1 : (Z4m a.tmps (.tmp t)).run P w = .ok v w := by simp [Z4m, Array.getD_eq_getD_getElem?, ha.2.2 _ _ h]
  simp only [List.mapM_cons, Sem.run_bind, h1, Result.andThen_ok, ih, Sem.run_pure]
 | @cell t T ad v rs vs h hl r ih =>
  have h1 : (Z4m a.tmps (.cell t T)).run P w = .ok v w := by simp [Z4m, Array.getD_eq_getD_getElem?, ha.2.2 _ _ h, asAddr, hl]
  simp only [List.mapM_cons, Sem.run_bind, h1, Result.andThen_ok, ih, Sem.run_pure]
theorem ResV.run {fn : Func} {rs : List ResultVar} {vs : List Value} {a : Act} (ha : Fits N ρ a) (h : ResV P w ρ rs vs) (hr : fn.results = rs.toArray) (hlen : vs.length ≠ 1) : (results fn a.tmps).run P w = .ok (.tuple vs.toArray) w := by
 rw [results_eq, hr]
 simp only [List.mapM_toArray, Sem.run_bind, Sem.run_map, h.list ha, Result.andThen_ok, Sem.run_pure]
 simp [hlen]
theorem ResV.run1 {fn : Func} {r : ResultVar} {v : Value} {a : Act} (ha : Fits N ρ a) (h : ResV P w ρ [r] [v]) (hr : fn.results = #[r]) : (results fn a.tmps).run P w = .ok v w := by
 rw [results_eq, hr]
 have := h.list ha
 simp only [List.mapM_toArray, Sem.run_bind, Sem.run_map, this, Result.andThen_ok, Sem.run_pure]
 simp
variable {fn : Func} {R : Ending → World → Prop}
theorem Z12 {rs : List ResultVar} {vs : List Value} (hr : fn.results = rs.toArray) (h : ResV P w ρ rs vs) (hlen : (vs.length == 1) = false) (hR : R (.returned (.tuple vs.toArray)) w) : RunE N .ret (bodyPost P fn R) ρ w := fun a ha =>
 bodyPost_ret (h.run ha hr (by simpa using hlen)) ha.1 hR
theorem Z2n {r : ResultVar} {v : Value} (hr : fn.results = #[r]) (h : ResV P w ρ [r] [v]) (hR : R (.returned v) w) : RunE N .ret (bodyPost P fn R) ρ w := fun a ha =>
 bodyPost_ret (h.run1 ha hr) ha.1 hR
theorem v_trunc {x hi mx : Operand} {T e : TypeId} {h : Nat} {v : Value} {cs : List Value} {Q : Z26} {rest : List Oper} {d : Nat} {ty : TypeId} {pos : String} {af : Array Edge} {g : Option (Nat × Bool)} {k k' : IntKind} {ih im : Int} {wx : World} (hg : Z0t ops ρ g = true) (hN : Nat.blt d N = true) (hT : P.underlying T = some (.slice e)) (hsz : (P.info? e).map (·.size) = some 1)
  (hx : Z0g ρ x = some v) (hh : Z0g ρ hi = some (.int k ih)) (hm : Z0g ρ mx = some (.int k' im)) (hv : IV wx v cs) (eh : ih = (h : Int)) (em : im = (h : Int)) (hh' : h ≤ cs.length)
  (n : ∀ A c, v = .slice A cs.length c → RunL P N ops Q rest ((d, .slice A h h) :: ρ) w) : RunL P N ops Q (⟨some d, .slice T x none (some hi) (some mx), ty, pos, af, g⟩ :: rest) ρ w := by
 obtain ⟨A, c, rfl, hc, hs⟩ := hv
 refine Z2d (l := 0) (h := h) (mm := h) (rl := none) (rh := some ih) (rm := some im) hg hN hT hsz hx rfl (by simp [Z2j, hh]) (by simp [Z2j, hm]) rfl (by simpa using eh) (by simpa using em) (by simp) (Nat.zero_le _) (Nat.le_refl _) ZO ?_
 rw [cutA0]
 exact n A c rfl
theorem v_head {x hi : Operand} {T e : TypeId} {h : Nat} {v : Value} {cs : List Value} {Q : Z26} {rest : List Oper} {d : Nat} {ty : TypeId} {pos : String} {af : Array Edge} {g : Option (Nat × Bool)} {k : IntKind} {ih : Int} {wx : World} (hg : Z0t ops ρ g = true) (hN : Nat.blt d N = true) (hT : P.underlying T = some (.slice e)) (hsz : (P.info? e).map (·.size) = some 1)
  (hx : Z0g ρ x = some v) (hh : Z0g ρ hi = some (.int k ih)) (hv : IV wx v cs) (eh : ih = (h : Int)) (hh' : h ≤ cs.length)
  (n : ∀ A c, v = .slice A cs.length c → RunL P N ops Q rest ((d, .slice A h c) :: ρ) w) : RunL P N ops Q (⟨some d, .slice T x none (some hi) none, ty, pos, af, g⟩ :: rest) ρ w := by
 obtain ⟨A, c, rfl, hc, hs⟩ := hv
 refine Z2d (l := 0) (h := h) (mm := c) (rl := none) (rh := some ih) (rm := none) hg hN hT hsz hx rfl (by simp [Z2j, hh]) rfl rfl (by simpa using eh) rfl (by simp) (Nat.zero_le _) ZO (Nat.le_refl _) ?_
 rw [cutA0]
 exact n A c rfl
theorem IV.head {w : World} {A : Option Addr} {c h : Nat} {cs : List Value} (hv : IV w (.slice A cs.length c) cs) (hh : h ≤ cs.length) : IV w (.slice A h c) (cs.take h) := by
 obtain ⟨A', c', e, hc, hs⟩ := hv
 injection e with e1 e2 e3
 subst e1 e3
 have hl : (cs.take h).length = h := by rw [List.length_take]; omega
 exact ⟨A, c, by rw [hl], by omega, hs.take h⟩
theorem Own.head {w : World} {E : TypeId} {A : Option Addr} {c h : Nat} {cs : List Value} (hv : Own w E 1 (.slice A cs.length c) cs.length cs) (hh : h ≤ cs.length) : Own w E 1 (.slice A h c) (cs.take h).length (cs.take h) := by
 have hl : (cs.take h).length = h := by rw [List.length_take]; omega
 rw [hl]
 have hcap : cs.length ≤ c ∧ (A = none → c = 0) := by
  rcases hv.2 with ⟨e, hn⟩ | ⟨g, off, cap, cur, e, h1, _⟩
  ·injection e with e1 e2 e3; omega
  injection e with e1 e2 e3; subst e1; exact ⟨by omega, fun h => by cases h⟩
 have := hv.take h c hh (Nat.le_refl _) ZO (fun _ hA => hcap.2 hA)
 rwa [Nat.mul_one] at this
theorem St.head {A : Option Addr} {c h : Nat} {cs : List Value} {E : TypeId} (hw : St w0 B M σ w) (u : Upd σ (As.ro E (.slice A cs.length c) cs) (As.ro E (.slice A h c) (cs.take h)) σ') (hh : h ≤ cs.length) : St w0 B M σ' w :=
 hw.as u (fun k hk => by cases A <;> exact hk) (fun w hv => Own.head hv hh)
theorem IV.trunc {w : World} {A : Option Addr} {c h : Nat} {cs : List Value} (hv : IV w (.slice A cs.length c) cs) (hh : h ≤ cs.length) : IV w (.slice A h h) (cs.take h) := by
 obtain ⟨A', c', e, hc, hs⟩ := hv
 injection e with e1 e2 e3
 subst e1
 have hl : (cs.take h).length = h := by rw [List.length_take]; omega
 exact ⟨A, h, by rw [hl], by omega, hs.take h⟩
theorem Own.trunc {w : World} {E : TypeId} {A : Option Addr} {c h : Nat} {cs : List Value} (hv : Own w E 1 (.slice A cs.length c) cs.length cs) (hh : h ≤ cs.length) : Own w E 1 (.slice A h h) (cs.take h).length (cs.take h) := by
 have hl : (cs.take h).length = h := by rw [List.length_take]; omega
 rw [hl]
 have hcap : cs.length ≤ c := by
  rcases hv.2 with ⟨e, hn⟩ | ⟨g, off, cap, cur, e, h1, _⟩
  ·omega
  injection e with e1 e2 e3; omega
 have := hv.take h h hh ZO (Nat.le_refl _) (fun hn _ => by omega)
 rwa [Nat.mul_one] at this
theorem St.trunc {A : Option Addr} {c h : Nat} {cs : List Value} {E : TypeId} (hw : St w0 B M σ w) (u : Upd σ (As.ro E (.slice A cs.length c) cs) (As.ro E (.slice A h h) (cs.take h)) σ') (hh : h ≤ cs.length) : St w0 B M σ' w :=
 hw.as u (fun k hk => by cases A <;> exact hk) (fun w hv => Own.trunc hv hh)
theorem St.drewn (hw : St w0 B M σ w) : St w0 B M σ w.drew := hw.same ⟨rfl, rfl, rfl, Nat.le_refl _, fun _ _ _ => rfl⟩
inductive Lits (ρ : Env) : Nat → List (Nat × Operand) → List Value → Prop
 | nil {i : Nat} : Lits ρ i [] []
 | cons {i : Nat} {x : Operand} {v : Value} {xs : List (Nat × Operand)} {vs : List Value} (h : Z0g ρ x = some v) (h1 : v.oneCell' = true) (t : Lits ρ (i + 1) xs vs) : Lits ρ i ((i, x) :: xs) (v :: vs)
theorem Lits.fill {i : Nat} {xs : List (Nat × Operand)} {vs : List Value} (h : Lits ρ i xs vs) {a : Act} (ha : Fits N ρ a) : ∀ pre : List Value, pre.length = i → ∀ m : Nat, m = vs.length → ∀ z : Value,
  Instr.fill (fun j => some (j, 1)) (pre ++ List.replicate m z).toArray (xs.map fun p => (p.1, a.eval p.2)) = some (pre ++ vs).toArray := by
 induction h with
 | nil => intro pre hp m hm z; subst hm; simp [Instr.fill]
 | @cons i x v xs vs hv h1 t ih =>
  intro pre hp m hm z
  subst hm
  have hc : v.cells = #[v] := by cases v <;> first | rfl | (simp [Value.oneCell'] at h1; done)
  simp only [List.map_cons, ha.eval hv, Instr.fill, hc, Nat.mul_one]
  rw [if_neg (by simp; omega)]
  have e : (pre ++ List.replicate (v :: vs).length z).toArray.setIfInBounds i v = ((pre ++ [v]) ++ List.replicate vs.length z).toArray := by
   simp [List.replicate_succ, ← hp]
  have e2 : (#[v].zipIdx.foldl (fun cs (x : Value × Nat) => cs.setIfInBounds (i + x.2) x.1) (pre ++ List.replicate (v :: vs).length z).toArray) = ((pre ++ [v]) ++ List.replicate vs.length z).toArray := by
   rw [← e]; simp
  rw [e2]
  have := ih (pre ++ [v]) (by simp [hp]) vs.length rfl z
  rw [this]
  simp
theorem Z2g {Q : Post} {ops : Array Oper} {rest : List Oper} {d : Nat} {ty : TypeId} {pos : String} {af : Array Edge} {g : Option (Nat × Bool)} {t e : TypeId} {z : Value} {bytes len : Nat} {parts : List (Nat × Operand)} {vs : List Value} (hw : St w0 B M σ w) (hg : Z0t ops ρ g = true) (hN : Nat.blt d N = true) (hT : P.underlying t = some (.slice e))
    (hi : (P.info? e).map (fun i => (i.zero, i.size, i.bytes)) = some (some z, 1, bytes)) (hz : z.cells = #[z]) (hp : Lits ρ 0 parts vs) (hlen : len = vs.length) (hpos : Nat.blt 0 len = true) (hs : Nat.ble len 16777216 = true)
    (n : ∀ b w', St w0 B M (As.blk b e vs :: σ) w' → RunL P N ops ⟨false, Q⟩ rest ((d, .slice (some ⟨b, 0, none⟩) len len) :: ρ) w') : RunL P N ops ⟨false, Q⟩ (⟨some d, .buildSlice t len parts.toArray, ty, pos, af, g⟩ :: rest) ρ w := by
  obtain ⟨i, hi, h2, h3, h4⟩ := info_parts hi
  have hpos' : 0 < len := by have : 0 + 1 ≤ len := by simpa [Nat.blt] using hpos
                             omega
  have hs' : len ≤ 16777216 := by simpa using hs
  refine Z2k (fun h => by cases h) hg rfl hN (fun a ha => ?_) (n w.heap.size (w.alloc (.cells vs.toArray e)) (hw.new _ _ (heap_alloc_new w _) fun k hk => hk))
  have hf := hp.fill ha [] rfl len hlen z
  have hm : (parts.toArray.map fun (p : Nat × Operand) => (p.1, a.eval p.2)) = (parts.map fun p => (p.1, a.eval p.2)).toArray := by simp
  have hcells : ((Array.range (len * 1)).map fun j => z.cells[j % z.cells.size]!) = (List.replicate len z).toArray := by
    apply Array.ext'
    apply List.ext_getElem?
    intro j
    rw [hz]
    by_cases hj : j < len
    · simp [hj, Nat.mod_one]
    simp [hj]
  have hr : (Instr.buildSlice t len ((parts.map fun p => (p.1, a.eval p.2)).toArray)).run P w = .ok (.slice (some ⟨w.heap.size, 0, none⟩) len len) (w.alloc (.cells vs.toArray e)) := by
    simp only [Nat.mul_one] at hcells hf
    have hne : ¬ len = 0 := by omega
    have hbig : ¬ len > 2 ^ 24 := by omega
    simp only [List.nil_append] at hf
    simp only [Instr.buildSlice, Sem.run_bind, run_underlying hT, Result.andThen_ok, sizeOf, typeInfo, run_program, hi, Sem.run_pure, h3, Nat.mul_one, zeroValue, h2, if_neg hne, if_neg hbig, hcells, hf]
    simp [newRow]
  simp only [execOp]
  rw [hm]
  simp only [Sem.run_bind, hr, Result.andThen_ok, Sem.run_pure]
theorem Z0E {b o m : Nat} {E t : TypeId} {u : TypeDesc} {cs vs : List Value} (hw : St w0 B M σ w) (hm : As.blk b E cs ∈ σ) (hu : P.underlying t = some u) (hp : Z1V u = false) (hsz : (P.info? t).map (·.size) = some m) (hv : Win cs o m vs) :
  (loadVar t ⟨b, o, none⟩).run P w = .ok (.agg vs.toArray) w := by
 have hb : w.heap[b]? = some (.cells cs.toArray E (0, 0)) := hw.ok hm
 have hl : (loadCells ⟨b, o, none⟩ vs.length).run P w = .ok vs.toArray w := run_loadCells_list (P := P) w _ vs fun j v hj => by
  rw [Z2p, cell_of_row w b _ cs.toArray E (0, 0) hb]
  simpa using hv.get.2 j v hj
 have hi : (isAgg t).run P w = .ok true w := by
  simp only [isAgg, Sem.run_bind, run_underlying hu, Result.andThen_ok]
  cases u <;> simp_all [Z1V]
 cases hq : P.info? t with
 | none => simp [hq] at hsz
 | some inf =>
  have h1 : inf.size = vs.length := by rw [hv.get.1]; simpa [hq] using hsz
  simp [loadVar, hi, sizeOf, typeInfo, hq, h1, hl]
end
theorem Z2b {m q d : Int} {k : IntKind} (hq : (2 : Int) ^ (min q.toNat k.bits) = d) (hd : 0 ≤ d) : m.fdiv (2 ^ (min q.toNat k.bits)) = m / d := by
 rw [hq]; exact Int.fdiv_eq_ediv_of_nonneg m hd
theorem Z6B {m q d r : Int} {k : IntKind} (hq : (2 : Int) ^ (min q.toNat k.bits) = d) (hr : k.wrap (m * d) = r) : k.wrap (m * 2 ^ (min q.toNat k.bits)) = r := by
 rw [hq]; exact hr
theorem Z1D {m : Int} (h : 0 ≤ m ∧ m ≤ 18446744073709551615) : (BitVec.ofInt 64 m).toNat = m.toNat := by
 rw [BitVec.toNat_ofInt]
 omega
theorem Z3r (k : Nat) {m q d : Int} (h : 0 ≤ m ∧ m ≤ 18446744073709551615) (hk : k ≤ 64) (hq : q = 2 ^ k - 1) (hd : d = 2 ^ k) : bitw .and .u64 m q = m % d := by
 subst hq hd
 have hp : (2 : Nat) ^ k ≤ 2 ^ 64 := Nat.pow_le_pow_right ZO hk
 have hp1 : 0 < (2 : Nat) ^ k := Nat.pow_pos ZO
 have hq : (2 : Int) ^ k = ((2 ^ k : Nat) : Int) := by simp
 have h64 : (2 : Nat) ^ 64 = 18446744073709551616 := by decide
 show IntKind.u64.wrap _ = _
 have e : (BitVec.ofInt 64 m &&& BitVec.ofInt 64 ((2 : Int) ^ k - 1)).toNat = m.toNat % 2 ^ k := by
  rw [BitVec.toNat_and, Z1D h, Z1D ZO]
  have : ((2 : Int) ^ k - 1).toNat = 2 ^ k - 1 := by omega
  rw [this, Nat.and_two_pow_sub_one_eq_mod]
 have e' : (BitVec.ofInt IntKind.u64.bits m &&& BitVec.ofInt IntKind.u64.bits ((2 : Int) ^ k - 1)).toNat = m.toNat % 2 ^ k := e
 have hlt := Nat.mod_lt m.toNat hp1
 have h5 : IntKind.u64.wrap ((m.toNat % 2 ^ k : Nat) : Int) = ((m.toNat % 2 ^ k : Nat) : Int) := Z1p ZO
 have h6 : ((m.toNat % 2 ^ k : Nat) : Int) = m % 2 ^ k := by rw [hq, Int.natCast_emod, Int.toNat_of_nonneg h.1]
 exact (congrArg (fun n : Nat => IntKind.u64.wrap (n : Int)) e').trans (h5.trans h6)
end Go.Vc
