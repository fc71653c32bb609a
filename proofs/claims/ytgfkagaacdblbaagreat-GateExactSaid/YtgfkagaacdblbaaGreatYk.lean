/- ranges over a function: rules -/
import Derived.RangeFuncLeaves
import Derived.RangeFuncFrom
import Derived.Test.YtgfkagaacdblbaaGreatYa
set_option linter.unusedVariables false
set_option linter.unusedSimpArgs false
set_option maxRecDepth 10000
namespace Go.Proofs.YtgfkagaacdblbaaGreat.W
open Go.Vc Go.RowKit Tryz
abbrev FW (r : Option Nat) : Fence := { Fence.wide with round := r }
def noDef (o : Oper) : Bool := match o.op with | .defer _ => false | _ => true
section
variable {P : Program} {N n : Nat} {r : Option Nat} {ds : List Deferred} {Q : Post} {ρ : Env} {w : World} {ops : Array Oper}
theorem rowsIn_FW {m : Nat} {row : String} {args : Array Value} {R : Value → World → Prop} (h : Rows P row args w R) : RowsIn (FW r) m P row args w R := fun c cs _ => by
 obtain ⟨v, w', hr, hs⟩ := h c cs
 exact ⟨v, w', hr, stepsIn_wide.2 hs⟩
theorem callsIn_FW {m : Nat} {f : FuncId} {args : Array Value} {R : Ending → World → Prop} (h : Calls P f args w R) : CallsIn (FW r) m P f args w R := (callsIn_wide (n := m)).2 h
theorem no_def {R : Act → World → Prop} : ∀ (l : List Oper) (a : Act) (w : World), a.defers ≠ [] → ¬ wpList P ops (fun e a w => e = .normal ∧ a.defers = [] ∧ R a w) l a w
 | [], a, w, hd, h => hd h.2.1
 | o :: l, a, w, hd, h => by
  have ih := no_def (R := R) l
  have hput : ∀ (a : Act) d v, (a.put d v).defers = a.defers := fun a d v => by cases d <;> rfl
  unfold wpList at h
  split at h
  ·rcases h with h | ⟨_, a', w', hx, _⟩
   ·unfold Oper.wp at h
    generalize (execOp a.eval o).run P w = res at h
    match res, h with
    | .ok (.value v) w', h => exact ih _ _ (by rw [hput]; exact hd) h
    | .ok .skip w', h => exact ih _ _ (by rw [hput]; exact hd) h
    | .ok (.defer d) w', h => exact ih _ _ (by rw [hput]; simp) h
    | .ok (.enter f args) w', h =>
     obtain ⟨e, w'', fr, hr, _⟩ := h []
     match e, hr with
     | .returned v, hr => exact ih _ _ (by rw [hput]; exact hd) hr
     | .panicked ch, hr => exact absurd hr.1 (by simp)
     | .outgrown, ⟨_, _, hr⟩ => exact absurd hr.1 (by simp)
    | .ok (.row row args) w', h =>
     obtain ⟨v, w'', hr, _⟩ := h default []
     exact ih _ _ (by rw [hput]; exact hd) hr
    | .halt (.panic v) w', h => exact absurd h.1 (by simp)
   cases hx
  exact ih _ _ (by rw [hput]; exact hd) h
theorem Z4y {l2 : List Oper} : ∀ (l1 : List Oper), l1.all noDef = true → ∀ (a : Act) (w : World), a.defers = [] → wpList P ops (fun e a w => e = .normal ∧ a.defers = [] ∧ wpListIn (FW r) n P ops Q l2 { a with defers := ds } w) l1 a w → wpListIn (FW r) n P ops Q (l1 ++ l2) { a with defers := ds } w
 | [], _, a, w, _, h => h.2.2
 | o :: l, hd, a, w, h0, h => by
  simp only [List.all_cons, Bool.and_eq_true] at hd
  have ih := Z4y (l2 := l2) l hd.2
  have hput : ∀ d v, ({ a with defers := ds } : Act).put d v = { a.put d v with defers := ds } := fun d v => by cases d <;> rfl
  have hdef : ∀ d v, (a.put d v).defers = [] := fun d v => by rw [← h0]; cases d <;> rfl
  unfold wpList at h
  show wpListIn (FW r) n P ops Q (o :: (l ++ l2)) { a with defers := ds } w
  unfold wpListIn
  split at h
  ·rename_i hw
   rw [if_pos hw]
   rcases h with h | ⟨_, a', w', hx, _⟩
   ·unfold Oper.wp at h
    refine ⟨fun _ _ => trivial, ?_⟩
    rw [Oper.semAt_eq _ _ _ (fun c hc => by simp [noDef, hc] at hd)]
    show o.uponIn (FW r) n P { a with defers := ds } _ Q ((execOp a.eval o).run P w)
    generalize (execOp a.eval o).run P w = res at h ⊢
    match res, h with
    | .ok (.value v) w', h => rw [Oper.uponIn_value, hput]; exact ih _ _ (hdef _ _) h
    | .ok .skip w', h => rw [Oper.uponIn_skip, hput]; exact ih _ _ (hdef _ _) h
    | .ok (.defer d) w', h => exact absurd h (no_def _ _ _ (by cases o.dst <;> simp [Act.put]))
    | .ok (.enter f args) w', h =>
     refine ⟨fun e => by simp [Fence.wide] at e, callsIn_FW (Calls.mono h fun e w'' hr => ?_)⟩
     match e, hr with
     | .returned v, hr =>
      show wpListIn (FW r) n P ops Q (l ++ l2) (({ a with defers := ds } : Act).put o.dst v) w''
      rw [hput]
      exact ih _ _ (hdef _ _) hr
     | .panicked ch, hr => exact absurd hr.1 (by simp)
     | .outgrown, ⟨_, _, hr⟩ => exact absurd hr.1 (by simp)
    | .ok (.row row args) w', h => exact ⟨fun e => by simp [Fence.wide] at e, rowsIn_FW (Rows.mono h fun v w'' hr => by rw [hput]; exact ih _ _ (hdef _ _) hr)⟩
    | .halt (.panic v) w', h => exact absurd h.1 (by simp)
   cases hx
  rename_i hw
  rw [if_neg hw]
  exact ⟨fun _ _ => trivial, by rw [hput]; exact ih _ _ (hdef _ _) h⟩
abbrev GK (P : Program) (ops : Array Oper) (r : Option Nat) (n : Nat) (ds : List Deferred) (Q : Post) (l2 : List Oper) : Post := fun e a w => e = .normal ∧ a.defers = [] ∧ wpListIn (FW r) n P ops Q l2 { a with defers := ds } w
def RunX (P : Program) (N : Nat) (r : Option Nat) (n : Nat) (ds : List Deferred) (ops : Array Oper) (Q : Post) (l : List Oper) (ρ : Env) (w : World) : Prop := ∀ a, Fits N ρ a → wpListIn (FW r) n P ops Q l { a with defers := ds } w
theorem x_pre (l1 : List Oper) {l2 : List Oper} (hd : l1.all noDef = true) (h : RunL P N ops ⟨false, GK P ops r n ds Q l2⟩ l1 ρ w) : RunX P N r n ds ops Q (l1 ++ l2) ρ w := fun a ha => Z4y l1 hd a w ha.1 (h a ha)
theorem e_x {l2 : List Oper} (h : RunX P N r n ds ops Q l2 ρ w) : RunE N .normal (GK P ops r n ds Q l2) ρ w := fun a ha => ⟨rfl, ha.1, h a ha⟩
def RunG (P : Program) (N : Nat) (r : Option Nat) (n : Nat) (ds : List Deferred) (c : Code) (Q : Post) (ρ : Env) (w : World) : Prop := ∀ a, Fits N ρ a → c.wpIn (FW r) n P Q { a with defers := ds } w
def Z2K (N : Nat) (ds : List Deferred) (e : Exit) (Q : Post) (ρ : Env) (w : World) : Prop := ∀ a, Fits N ρ a → Q e { a with defers := ds } w
theorem Z2M (h : Z2K N ds .normal Q ρ w) : RunX P N r n ds ops Q [] ρ w := fun a ha => h a ha
theorem Z1J {i : Nat} {l : List Oper} (hd : l.all noDef = true) (h : RunL P N l.toArray ⟨false, GK P l.toArray r n ds Q []⟩ l ρ w) : RunG P N r n ds (.region i l.toArray false) Q ρ w := fun a ha => by
 have := Z4y l hd a w ha.1 (h a ha)
 rw [List.append_nil] at this
 exact wpIn_region_lit this
theorem Z3B {x y : Code} (h : RunG P N r n ds x (Exit.then (y.wpIn (FW r) n P Q) Q) ρ w) : RunG P N r n ds (.seq x y) Q ρ w := fun a ha => wpIn_seq (h a ha)
theorem Z2s {y : Code} (h : RunG P N r n ds y Q ρ w) : Z2K N ds .normal (Exit.then (y.wpIn (FW r) n P Q) Q) ρ w := fun a ha => h a ha
theorem g_then_ret {K : Act → World → Prop} (h : Z2K N ds .ret Q ρ w) : Z2K N ds .ret (Exit.then K Q) ρ w := fun a ha => h a ha
theorem g_skip (h : Z2K N ds .normal Q ρ w) : RunG P N r n ds .skip Q ρ w := fun a ha => wpIn_skip (h a ha)
theorem g_ret (h : Z2K N ds .ret Q ρ w) : RunG P N r n ds .ret Q ρ w := fun a ha => wpIn_ret (h a ha)
theorem Z4z {i : Nat} {c : Code} (h : RunG P N r n ds c (Exit.inBlock i Q) ρ w) : RunG P N r n ds (.block i c) Q ρ w := fun a ha => wpIn_block (h a ha)
theorem g_blk {i : Nat} (h : Z2K N ds .normal Q ρ w) : Z2K N ds .normal (Exit.inBlock i Q) ρ w := fun a ha => h a ha
theorem g_blk_ret {i : Nat} (h : Z2K N ds .ret Q ρ w) : Z2K N ds .ret (Exit.inBlock i Q) ρ w := fun a ha => h a ha
theorem g_cond {c : Operand} {x y : Code} {p : Prop} {_ : Decidable p} (hc : Z0g ρ c = some (.bool (decide p))) (ht : p → RunG P N r n ds x Q ρ w) (hf : ¬ p → RunG P N r n ds y Q ρ w) : RunG P N r n ds (.cond c x y) Q ρ w := fun a ha =>
 wpIn_cond_split (t := decide p) (show ({ a with defers := ds } : Act).eval c = _ from ha.eval hc) (fun h => ht (of_decide_eq_true h) a ha) (fun h => hf (of_decide_eq_false h) a ha)
theorem c_regionX {i : Nat} {l : List Oper} (h : RunX P N none 0 [] l.toArray Q l ρ w) : RunC P N (.region i l.toArray false) Q ρ w := fun a ha => by
 have h1 := wpIn_region_lit (F := FW none) (n := 0) (id := i) (h a ha)
 rw [show ({ a with defers := [] } : Act) = a from by rw [← ha.1]] at h1
 exact wpIn_wide.1 h1
theorem x_yield {d : Nat} {ty : TypeId} {pos : String} {af : Array Edge} {g : Option (Nat × Bool)} {x : Operand} {l : Nat} {args : List Operand} {vals : List Value} {ats : Array TypeId} {R : Ending → World → Prop} {rest : List Oper} (hg : Z0t ops ρ g = true) (hN : Nat.blt d N = true) (hx : Z0g ρ x = some (.func (.yield l) #[] #[])) (hv : Z1f ρ args vals)
  (h : YieldAt (FW r) (n - 1) P l vals.toArray w R) (hR : ∀ e w', R e w' → ∃ v, e = .returned v ∧ RunX P N r n ds ops Q rest ((d, v) :: ρ) w') : RunX P N r n ds ops Q (⟨some d, .call ⟨.value x, args.toArray, ats⟩, ty, pos, af, g⟩ :: rest) ρ w := fun a ha => by
 obtain ⟨fn, tmps, assign, body, hy, hr⟩ := h
 unfold wpListIn
 have hwt : Region.wanted ⟨some d, .call ⟨.value x, args.toArray, ats⟩, ty, pos, af, g⟩ (yielded ops a.tmps) = true := Z1X ha hg
 rw [if_pos hwt]
 refine ⟨fun _ _ => trivial, ?_⟩
 rw [Oper.semAt_eq _ _ _ (fun c hc => by cases hc)]
 have hmap : args.toArray.map a.eval = vals.toArray := by rw [← hv.map ha]; simp
 have : (execOp ({ a with defers := ds } : Act).eval ⟨some d, .call ⟨.value x, args.toArray, ats⟩, ty, pos, af, g⟩).run P w = .ok (.round l fn tmps assign body) w := by
  have e1 : ({ a with defers := ds } : Act).eval = a.eval := rfl
  rw [e1]
  simp only [execOp, resolve, hmap, ha.eval hx]
  simp [Deferred.ofValue, invoke, hy]
 rw [this, Oper.uponIn_round]
 refine ⟨fun e => by simp [Fence.wide] at e, hr.mono fun e w' he => ?_⟩
 obtain ⟨v, rfl, h⟩ := hR e w' he
 exact h _ (ha.put d hN v)
end
def Z1r (G : GW) (n : Nat) : List Nat := (List.range n).filter (mayG G)
def Z0A (G : GW) : List Nat := Z1r G G.hs.length
theorem Z2N (G : GW) (n : Nat) : Z1r G (n + 1) = Z1r G n ++ (if mayG G n = true then [n] else []) := by
 unfold Z1r
 rw [List.range_succ, List.filter_append, List.filter_cons, List.filter_nil]
theorem movesTo_pre (G : GW) : ∀ (k n : Nat), Z1r G n <+: Z1r G (n + k)
 | 0, n => List.prefix_refl _
 | k + 1, n => (movesTo_pre G k n).trans (by rw [show n + (k + 1) = n + k + 1 from rfl, Z2N]; exact List.prefix_append _ _)
section
variable {P : Program} {N n : Nat} {r : Option Nat} {ds : List Deferred} {Q : Post} {ρ : Env} {w w0 : World} {ops : Array Oper} {B : Nat} {M : Nat → Prop} {σ σ' τ : List As}
theorem x_turn {s : Nat} {v v' : Value} {l : List Oper} (hv : ρ.get s = some v) (e : v = v') (h : RunX P N r n ds ops Q l ((s, v') :: ρ) w) : RunX P N r n ds ops Q l ρ w := fun a ha =>
 h a ⟨ha.1, ha.2.1, fun t u ht => by
  rw [Env.get_cons] at ht
  split at ht
  ·rename_i es
   subst es
   cases ht
   rw [← e]
   exact ha.2.2 _ _ hv
  exact ha.2.2 t u ht⟩
theorem ge_of {e : Exit} (h : RunE N e Q ρ w) : Z2K N [] e Q ρ w := fun a ha => by
 rw [show ({ a with defers := [] } : Act) = a from by rw [← ha.1]]
 exact h a ha
def As.one (k : Nat) (o : Obj) : As := ⟨fun j => j = k, fun w => w.heap[k]? = some o, fun w w' h hw => (h k rfl).trans hw⟩
theorem Z1z {l : Nat} {o o' : Obj} (hw : St w0 B M σ w) (u : Upd σ (As.one l o) (As.one l o') σ') : St w0 B M σ' (w.putObj l o') := by
 have hb : w.heap[l]? = some o := hw.ok u.mem
 have hlt : l < w.heap.size := (Array.getElem?_eq_some_iff.1 hb).1
 refine hw.upd u ⟨rfl, rfl, rfl, by simp, fun k hk hm => World.putObj_heap_other (fun e => hm e)⟩ (World.putObj_heap_same hlt) ?_
 intro k hk
 have : k = l := hk
 subst this
 exact ⟨.inl rfl, by simpa using hlt⟩
theorem Z3O (h : St w0 B M (τ ++ σ) w) : St w0 B M σ w := ⟨h.ext, h.base, Sep.right h.sep⟩
theorem Z3b (h : St w0 B M (τ ++ σ) w) : St w0 B M τ w := Z3O (St.perm List.perm_append_comm h)
end
theorem readyD (b : Nat) (w : World) :
  Z0f P 57 [ptr b] w fun r w' => ∃ bd, r = .func (.func 68) #[] #[ptr bd] ∧ Grow w w' [As.blk bd 93 [ptr b]] := by
 refine Z0o func57 rfl ntmps57 rfl ?_
 have H0 := St.start w
 refine Z03 (Z00 ?_)
 refine Z49 H0 rfl rfl rfl ZR (fun b0_0 w1 H1 => ?_)
 refine Zg (Z01 (Z02 ?_))
 refine Zk [1] ?_
 refine Z03 (Z00 ?_)
 refine Z1I rfl rfl (.cons rfl .nil) ?_
 refine Zg (Z01 (Z02 ?_))
 refine Zk [2] ?_
 refine Z0i ?_
 refine Z0e results57 rfl ?_
 refine ⟨_, rfl, ?_⟩
 exact ⟨_, rfl, H1.grows⟩
theorem ready1D (b bd l : Nat) (X : Gm) (hwf : Wf X.abs) (Ψ : List Nat → As → Prop) (Φ : List Nat → List As → Prop) (A0 : As) (hΨ0 : Ψ [] A0) (hY : ∀ (pre : List Nat) (i : Nat) (A : As) (w1 : World), Ψ pre A → pre ++ [i] <+: Z0A X.abs → Sep w1.heap.size (fps ([As.blk b 63 (gC X), As.rk 71 3 X.vh (X.hs.map Z0V), As.ro 47 X.vr (X.hs.map (·.vd)), As.sep (Z1t b X), As.blk bd 93 [ptr b], A])) w1 ([As.blk b 63 (gC X), As.rk 71 3 X.vh (X.hs.map Z0V), As.ro 47 X.vr (X.hs.map (·.vd)), As.sep (Z1t b X), As.blk bd 93 [ptr b], A]) → YieldAt (FW none) 0 P l #[.agg #[.int .i64 (i : Int), .int .i64 0]] w1 fun e w' => (e = .returned (.bool true) ∧ ∃ A', Ψ (pre ++ [i]) A' ∧ Z1C w1 w' ([As.blk b 63 (gC X), As.rk 71 3 X.vh (X.hs.map Z0V), As.ro 47 X.vr (X.hs.map (·.vd)), As.sep (Z1t b X), As.blk bd 93 [ptr b], A]) ([As.blk b 63 (gC X), As.rk 71 3 X.vh (X.hs.map Z0V), As.ro 47 X.vr (X.hs.map (·.vd)), As.sep (Z1t b X), As.blk bd 93 [ptr b], A'])) ∨ (e = .returned (.bool false) ∧ ∃ T, Φ (pre ++ [i]) T ∧ Z1C w1 w' ([As.blk b 63 (gC X), As.rk 71 3 X.vh (X.hs.map Z0V), As.ro 47 X.vr (X.hs.map (·.vd)), As.sep (Z1t b X), As.blk bd 93 [ptr b], A]) T)) (w : World) (hS : Sep w.heap.size (fps ([As.blk b 63 (gC X), As.rk 71 3 X.vh (X.hs.map Z0V), As.ro 47 X.vr (X.hs.map (·.vd)), As.sep (Z1t b X), As.blk bd 93 [ptr b], A0])) w ([As.blk b 63 (gC X), As.rk 71 3 X.vh (X.hs.map Z0V), As.ro 47 X.vr (X.hs.map (·.vd)), As.sep (Z1t b X), As.blk bd 93 [ptr b], A0])) :
  Z0f P 68 [.func (.yield l) #[] #[], ptr bd] w fun r w' => ∃ T, ((∃ A, T = [As.blk b 63 (gC X), As.rk 71 3 X.vh (X.hs.map Z0V), As.ro 47 X.vr (X.hs.map (·.vd)), As.sep (Z1t b X), As.blk bd 93 [ptr b], A] ∧ Ψ (Z0A X.abs) A) ∨ ∃ pre, pre <+: Z0A X.abs ∧ Φ pre T) ∧ Z1C w w' ([As.blk b 63 (gC X), As.rk 71 3 X.vh (X.hs.map Z0V), As.ro 47 X.vr (X.hs.map (·.vd)), As.sep (Z1t b X), As.blk bd 93 [ptr b], A0]) T := by
 refine Z0o func68 rfl ntmps68 rfl ?_
 have H0 : St w w.heap.size (fps ([As.blk b 63 (gC X), As.rk 71 3 X.vh (X.hs.map Z0V), As.ro 47 X.vr (X.hs.map (·.vd)), As.sep (Z1t b X), As.blk bd 93 [ptr b], A0])) ([As.blk b 63 (gC X), As.rk 71 3 X.vh (X.hs.map Z0V), As.ro 47 X.vr (X.hs.map (·.vd)), As.sep (Z1t b X), As.blk bd 93 [ptr b], A0]) w := St.startS hS
 have hn16 : X.hs.length ≤ 16 := by simpa [Gm.abs] using hwf.n16
 have hfr16 : X.fr ≤ 16 := hwf.fr
 refine Z03 (Z00 ?_)
 refine Z05 H0 mem4 rfl rfl underlying93 rfl rfl rfl ?_
 refine Z0b rfl rfl rfl (Z09 Z2I rfl rfl rfl ?_)
 refine Z05 H0 mem0 rfl rfl underlying54 rfl rfl rfl ?_
 refine Z1B rfl rfl underlying54 rfl (Own.ik (Z0L _) (H0.ok mem1)) ?_
 refine Z0j (s := 10) (v' := .int .i64 (X.hs.length : Int)) rfl (by rw [List.length_map]) ?_
 refine Zm (Z01 (Z02 ?_))
 refine Zk [0, 9, 10, 11] ?_
 refine Z0d ?_
 refine Z0z (ι := Nat × As) (fun (z0 : Nat × As) => match z0 with | ⟨i, A⟩ => X.hs.length - i) (fun (z0 : Nat × As) (w' : World) => match z0 with | ⟨i, A⟩ => St w w.heap.size (fps ([As.blk b 63 (gC X), As.rk 71 3 X.vh (X.hs.map Z0V), As.ro 47 X.vr (X.hs.map (·.vd)), As.sep (Z1t b X), As.blk bd 93 [ptr b], A0])) ([As.blk b 63 (gC X), As.rk 71 3 X.vh (X.hs.map Z0V), As.ro 47 X.vr (X.hs.map (·.vd)), As.sep (Z1t b X), As.blk bd 93 [ptr b], A]) w' ∧ i ≤ X.hs.length ∧ Ψ (Z1r X.abs i) A) (fun (z0 : Nat × As) => match z0 with | ⟨i, A⟩ => [(11, .int .i64 (i : Int))]) [0, 9, 10] (0, A0) ?_ (.cons rfl (.cons rfl (.cons rfl .nil))) ?_ ?_
 ·exact ⟨H0, ZO, hΨ0⟩
 ·exact (.cons rfl ZN .nil)
 rintro ⟨i, A⟩ w1 ⟨H1, hi, hΨ⟩
 show RunC P _ _ _ (_ :: _) _
 refine Z03 (Z00 ?_)
 refine Zl ?_
 refine Z01 (Z02 (Z03 ?_))
 (first | refine Z0c rfl ?_ ?_ | refine Z08 rfl ?_ ?_) <;> intro hc0
 ·refine Z0a (Z02 ?_)
  refine Zk [0, 9, 10, 11] ?_
  refine Z03 (Z0d (Z03 (Z00 ?_)))
  obtain ⟨m, hm⟩ : ∃ m, X.hs[i]? = some m := ⟨_, List.getElem?_eq_getElem ZO⟩
  have hGFi : GF b X w1 := GF.of (σ := _) H1
  have hrow : (X.hs.map Z0V)[i]? = some (Z0V m) := by rw [List.getElem?_map, hm]; rfl
  obtain ⟨Ah, ch, hvh⟩ : ∃ A c, X.vh = .slice (some A) (X.hs.map Z0V).length c := by
   obtain ⟨_, A, c, e, _, hs⟩ := hGFi.hh
   obtain ⟨ad, rfl⟩ := hs.some_ (by rw [(Z0L _).len, List.length_map]; omega)
   exact ⟨ad, c, e⟩
  refine Zm ?_
  refine Z1s (j := i) rfl rfl underlying54 tz71 (by decide) rfl rfl hGFi.hh hvh ZP (by rw [List.length_map]; omega) ?_
  refine Z2w (j := i) rfl rfl underlying71 rfl tz71 rfl hvh hGFi.hh hrow ?_
  refine Z0X H1 ta71 rfl rfl (fun b2_3 w2 H2 => ?_)
  refine Zg ?_
  refine Z0m H2 .head (.zero (.zero (.zero .nil))) rfl tz71 rfl rfl ZC (fun w3 H3 => ?_)
  refine Z01 (Z02 ?_)
  refine Zk [0, 3, 4, 9, 10, 11] ?_
  refine Z03 (Z00 (Zm (Z01 (Z02 (Z0d ?_)))))
  refine Z0z (ι := Nat × As) (fun (z0 : Nat × As) => match z0 with | ⟨c, A1⟩ => 2 - c) (fun (z0 : Nat × As) (w' : World) => match z0 with | ⟨c, A1⟩ => St w w.heap.size (fps ([As.blk b 63 (gC X), As.rk 71 3 X.vh (X.hs.map Z0V), As.ro 47 X.vr (X.hs.map (·.vd)), As.sep (Z1t b X), As.blk bd 93 [ptr b], A0])) (As.blk b2_3 71 (Z0V m) :: [As.blk b 63 (gC X), As.rk 71 3 X.vh (X.hs.map Z0V), As.ro 47 X.vr (X.hs.map (·.vd)), As.sep (Z1t b X), As.blk bd 93 [ptr b], A1]) w' ∧ c ≤ 2 ∧ Ψ (if c = 0 then Z1r X.abs i else Z1r X.abs (i + 1)) A1) (fun (z0 : Nat × As) => match z0 with | ⟨c, A1⟩ => [(16, .int .i64 (c : Int))]) [0, 3, 4, 9, 10, 11] (0, A) ?_ (.cons rfl (.cons rfl (.cons rfl (.cons rfl (.cons rfl (.cons rfl .nil)))))) ?_ ?_
  ·exact ⟨H3, ZO, by rw [if_pos rfl]; exact hΨ⟩
  ·exact (.cons rfl ZN .nil)
  rintro ⟨c, A1⟩ w4 ⟨H4, hc, hΨ1⟩
  show RunC P _ _ _ (_ :: _) _
  refine Z03 (Z00 ?_)
  refine Zl ?_
  refine Z01 (Z02 (Z03 ?_))
  (first | refine Z0c rfl ?_ ?_ | refine Z08 rfl ?_ ?_) <;> intro hc1
  ·refine Z0a (Z02 ?_)
   refine Zk [0, 3, 4, 9, 10, 11, 16] ?_
   refine Z03 (Z0d (Z03 (Z00 (Zm (Zg (Z01 (Z02 ?_)))))))
   refine Zk [0, 3, 4, 5, 9, 10, 11, 16] ?_
   refine Z03 ?_
   refine c_regionX ?_
   refine x_pre [_, _, _, _, _] rfl ?_
   refine Z09 fo71_0 rfl rfl rfl ?_
   refine Z05 H4 mem0 rfl rfl underlying67 rfl rfl rfl ?_
   refine Zm ?_
   refine Z3g rfl rfl rfl func47 rfl rfl (.cons rfl .nil) (mayCG b i X hwf m hm c w4 (GF.of (σ := [_, _]) (Z3O (τ := [_]) H4))) ?_
   rintro _ w90 ⟨rfl, hG⟩
   have H90 := hG _ _ _ _ H4
   simp only [List.nil_append] at H90
   clear hG
   refine Zm (Z01 ?_)
   refine e_x ?_
   have hsu := Z2N X.abs i
   rcases Classical.em ((c : Int) = 0 ∧ mayG X.abs i = true) with hmy | hmy
   obtain ⟨hcz, hmy⟩ := hmy
   have hcz' : c = 0 := by omega
   refine x_turn (s := 23) (v' := .bool true) rfl (by simp [hmy, hcz']) ?_
   refine x_pre [_, _, _, _] rfl ?_
   refine Zm (Zm (Zm ?_))
   refine Z0j (s := 26) (v' := .int .i64 0) rfl (by rw [hcz']; rfl) ?_
   refine Z16 rfl rfl pl87 ta87 (.one rfl rfl ZR (.zero) (.one rfl rfl ZR ((.succ .zero)) .nil)) ?_
   refine Z01 ?_
   refine e_x ?_
   have hpre : Z1r X.abs i ++ [i] <+: Z0A X.abs := by
    have h1 := movesTo_pre X.abs (X.abs.hs.length - (i + 1)) (i + 1)
    rw [hsu, if_pos hmy, show i + 1 + (X.abs.hs.length - (i + 1)) = X.abs.hs.length by simp [Gm.abs]; omega] at h1
    exact h1
   have H91 := St.perm (List.perm_append_comm (l₁ := [_]) (l₂ := [_, _, _, _, _, _])) H90
   clear H90
   rw [if_pos hcz'] at hΨ1
   refine x_yield rfl rfl rfl (.cons rfl .nil) (hY _ _ _ _ hΨ1 hpre (St.rows (τ := [As.blk b 63 (gC X), As.rk 71 3 X.vh (X.hs.map Z0V), As.ro 47 X.vr (X.hs.map (·.vd)), As.sep (Z1t b X), As.blk bd 93 [ptr b], A1]) H91)) ?_
   rintro e w92 (⟨rfl, A2, hΨ2, hT⟩ | ⟨rfl, T, hΦ, hT⟩)
   ·refine ⟨_, rfl, ?_⟩
    refine x_pre [_, _] rfl ?_
    refine Z3v rfl rfl rfl ?_
    refine Z1l rfl rfl rfl rfl ?_
    refine Z01 ?_
    refine e_x ?_
    refine Z2M ?_
    refine ge_of ?_
    have H95 := St.perm (List.perm_append_comm (l₁ := [_, _, _, _, _, _]) (l₂ := [_])) (hT _ _ _ _ H91)
    clear H91
    rw [show Z1r X.abs i ++ [i] = Z1r X.abs (i + 1) by rw [hsu, if_pos hmy]] at hΨ2
    simp only [Zca, Zna] at H95
    refine Z02 ?_
    refine Zk [0, 3, 4, 9, 10, 11, 16, 30] ?_
    refine Z0Q rfl rfl ?_
    refine Z0a ?_
    refine Z0F ?_
    refine Z02 ?_
    refine Zk [0, 3, 4, 9, 10, 11, 16] ?_
    refine Z00 ?_
    refine Z0y rfl rfl rfl rfl (Z0l ZO) ?_
    refine Zm (Z01 ?_)
    refine Z0p (i := (c, A1)) (c + 1, A2) ?_ ?_ (.cons rfl (.cons rfl (.cons rfl (.cons rfl (.cons rfl (.cons rfl .nil)))))) ?_
    ·first | omega | (simp; omega)
    ·exact ⟨H95, ZO, by rw [if_neg ZO]; exact hΨ2⟩
    exact (.cons rfl ZN .nil)
   ·refine ⟨_, rfl, ?_⟩
    refine x_pre [_, _] rfl ?_
    refine Z3v rfl rfl rfl ?_
    refine Z1l rfl rfl rfl rfl ?_
    refine Z01 ?_
    refine e_x ?_
    refine Z2M ?_
    refine ge_of ?_
    have H95 := Z3b (hT _ _ _ _ H91)
    clear H91
    refine Z02 ?_
    refine Zk [0, 3, 4, 9, 10, 11, 16, 30] ?_
    refine Z4L rfl rfl ?_
    refine Z0i ?_
    refine Z0k ?_
    refine Z07 ?_
    refine Z07 ?_
    refine Z0k ?_
    refine Z0k ?_
    refine Z07 ?_
    refine Z07 ?_
    refine Z0k ?_
    try dsimp only
    refine e_done0r results68 ?_
    refine ⟨_, rfl, ?_⟩
    exact ⟨T, .inr ⟨_, hpre, hΦ⟩, St.transS H95⟩
   refine x_turn (s := 23) (v' := .bool false) rfl (by rw [decide_eq_false hmy]) ?_
   refine x_pre [_, _, _, _, _, _, _] rfl ?_
   refine Z1Z rfl rfl ?_
   refine Z1Z rfl rfl ?_
   refine Z1Z rfl rfl ?_
   refine Z1Z rfl rfl ?_
   refine Z1Z rfl rfl ?_
   refine Z1Z rfl rfl ?_
   refine Z0Z rfl rfl rfl rfl ?_
   refine Z01 ?_
   refine e_x ?_
   refine Z2M ?_
   refine ge_of ?_
   have hΨ2 : Ψ (Z1r X.abs (i + 1)) A1 := by
    by_cases hc0' : c = 0
    ·rw [if_pos hc0'] at hΨ1
     rw [hsu, if_neg (fun h => hmy ⟨ZO, h⟩), List.append_nil]
     exact hΨ1
    rw [if_neg hc0'] at hΨ1
    exact hΨ1
   obtain ⟨A2, hA2⟩ : ∃ A2, A1 = A2 := ⟨A1, rfl⟩
   have H95 := H90
   rw [hA2] at H95 hΨ2
   clear H90
   refine Z02 ?_
   refine Zk [0, 3, 4, 9, 10, 11, 16, 30] ?_
   refine Z0Q rfl rfl ?_
   refine Z0a ?_
   refine Z0F ?_
   refine Z02 ?_
   refine Zk [0, 3, 4, 9, 10, 11, 16] ?_
   refine Z00 ?_
   refine Z0y rfl rfl rfl rfl (Z0l ZO) ?_
   refine Zm (Z01 ?_)
   refine Z0p (i := (c, A1)) (c + 1, A2) ?_ ?_ (.cons rfl (.cons rfl (.cons rfl (.cons rfl (.cons rfl (.cons rfl .nil)))))) ?_
   ·first | omega | (simp; omega)
   ·exact ⟨H95, ZO, by rw [if_neg ZO]; exact hΨ2⟩
   exact (.cons rfl ZN .nil)
  refine Z0H ?_
  refine Z06 ?_
  refine Z06 ?_
  refine Z0h ?_
  refine Z0F ?_
  refine Z02 ?_
  refine Zk [0, 9, 10, 11] ?_
  refine Z00 ?_
  refine Z0y rfl rfl rfl rfl (Z0l ZO) ?_
  refine Zm (Z01 ?_)
  have H101 := St.del .head H4
  refine Z0p (i := (i, A)) (i + 1, A1) ?_ ?_ (.cons rfl (.cons rfl (.cons rfl .nil))) ?_
  ·first | omega | (simp; omega)
  ·exact ⟨H101, ZO, by rw [if_neg ZO] at hΨ1; exact hΨ1⟩
  exact (.cons rfl ZN .nil)
 refine Z0H ?_
 refine Z06 ?_
 refine Z06 ?_
 refine Z0h ?_
 try dsimp only
 refine Z1o results68 ?_
 refine ⟨_, rfl, ?_⟩
 obtain rfl : i = X.hs.length := by omega
 refine ⟨_, .inl ⟨A, rfl, ?_⟩, St.transS H1⟩
 unfold Z0A
 rw [show X.abs.hs.length = X.hs.length by simp [Gm.abs]]
 exact hΨ
section
variable {P : Program} {N n : Nat} {Q : Post} {ρ : Env} {w : World}
theorem enterM {f : FuncId} {fn : Func} {c : Code} {args : List Value} {R : Value → World → Prop} (hf : P.funcs[f]? = some fn) (hb : fn.body = some c) (hn : fn.ntmps = N)
  (hN : Nat.ble args.length N = true) (n : RunG P N none 0 [] c (bodyPostM (FW none) 0 P fn (fun e w' => ∃ v, e = .returned v ∧ R v w')) (args0 0 args) w) : Z0f P f args w R := by
 subst hn
 have hN' : args.length ≤ fn.ntmps := by simpa using hN
 refine (callsIn_wide (n := 0)).1 (callsIn_of_wp_marks hf hb trivial (n { tmps := args.toArray ++ Array.replicate (fn.ntmps - args.toArray.size) undef, defers := [] } ⟨rfl, by simp; omega, fun s v h => ?_⟩))
 obtain ⟨_, h2⟩ := Z4b _ _ _ _ h
 simp only [Nat.sub_zero] at h2
 have hlt : s < args.length := (List.getElem?_eq_some_iff.1 h2).1
 rw [Array.getElem?_append_left (by simpa using hlt)]
 simpa using h2
theorem g_rangeF {g : Operand} {ps : Array Tmp} {assign body : Code} {gf : Nat} {lb : Array Value} (hg : Z0g ρ g = some (.func (.func gf) #[] lb)) (eg : ∀ args w, (callFunc gf args).run P w = .ok (.enter gf args) w)
  (h : ∀ (fn : FuncId) (a : Act), Fits N ρ a → ∀ rec : LoopState → Option Code → Loop, (rec = fun st pe => { state := st, pending := pe, fn, tmps := a.tmps, params := ps, assign, body, defers := w.heap.size }) →
   Calls P gf (#[.func (.yield (w.heap.size + 1)) #[] #[]] ++ lb) ((w.alloc (.deferred (some []))).alloc (.loop (rec .ready none))) fun e w2 => ∃ v, e = .returned v ∧ rangePost (FW none) n P (w.heap.size + 1) Q { a with defers := [{ target := .collected w.heap.size, args := #[] }] } (.returned v) w2) :
  RunG P N none n [] (.rangeFunc g ps assign body) Q ρ w := fun a ha => by
 refine wpIn_rangeFunc fun fn _ => ?_
 have hc := h fn a ha _ rfl
 refine ⟨w.heap.size + 1, [{ target := .collected w.heap.size, args := #[] }], (w.alloc (.deferred (some []))).alloc (.loop { state := .ready, pending := none, fn, tmps := a.tmps, params := ps, assign, body, defers := w.heap.size }),
  { target := .fn (.func gf) lb, args := #[.func (.yield (w.heap.size + 1)) #[] #[]] }, (w.alloc (.deferred (some []))).alloc (.loop { state := .ready, pending := none, fn, tmps := a.tmps, params := ps, assign, body, defers := w.heap.size }), gf,
  #[.func (.yield (w.heap.size + 1)) #[] #[]] ++ lb, (w.alloc (.deferred (some []))).alloc (.loop { state := .ready, pending := none, fn, tmps := a.tmps, params := ps, assign, body, defers := w.heap.size }), run_enterLoop_outer _ _ _ _ _, ?_, fun _ _ => trivial, ?_, fun e => by simp [Fence.wide] at e, ?_⟩
 ·have : ({ a with defers := [] } : Act).eval g = .func (.func gf) #[] lb := ha.eval hg
  simp only [resolve, this]
  simp [go_sem]
 ·simp [invoke, go_sem, eg]
 refine callsIn_FW (Calls.mono hc fun e w2 he => ?_)
 obtain ⟨v, rfl, h⟩ := he
 exact h
theorem yield_of {l p : Nat} {rec : Loop} {v : Value} {R : Ending → World → Prop} (hL : w.heap[l]? = some (.loop rec)) (hp : rec.params = #[p]) (hfit : Fits N ρ { tmps := rec.tmps.setIfInBounds p v, defers := [] })
  (h : RunG P N (some l) n [] rec.assign (Exit.then (fun a₁ w₁ => ∃ w₂, (Instr.beginRound l).run P w₁ = .ok () w₂ ∧ rec.body.wpIn (FW (some l)) n P (roundPost P l R) a₁ w₂) (fun _ _ _ => False)) ρ w) : YieldAt (FW none) n P l #[v] w R := by
 refine ⟨rec.fn, rec.tmps.setIfInBounds p v, rec.assign, rec.body, by rw [run_yield hL (by rw [hp]; rfl), hp]; simp, roundIn_of_wpIn (F := FW none) trivial ?_⟩
 exact h _ hfit
theorem g_begin {l : Nat} {rec : Loop} {body : Code} {Q2 : Post} (hL : w.heap[l]? = some (.loop rec)) (hst : rec.state = .ready) (h : RunG P N (some l) n [] body Q ρ (w.putObj l (.loop { rec with state := .busy }))) :
  Z2K N [] .normal (Exit.then (fun a₁ w₁ => ∃ w₂, (Instr.beginRound l).run P w₁ = .ok () w₂ ∧ body.wpIn (FW (some l)) n P Q a₁ w₂) Q2) ρ w := fun a ha => ⟨_, run_beginRound hL hst, h a ha⟩
theorem g_endn {l : Nat} {rec : Loop} {R : Ending → World → Prop} (hL : w.heap[l]? = some (.loop rec)) (h : R (.returned (.bool true)) (w.putObj l (.loop { rec with state := .ready, pending := none }))) : Z2K N [] .normal (roundPost P l R) ρ w := fun a ha => ⟨_, _, run_endRound none hL, h⟩
theorem g_endr {l : Nat} {rec : Loop} {R : Ending → World → Prop} (hL : w.heap[l]? = some (.loop rec)) (h : R (.returned (.bool false)) (w.putObj l (.loop { rec with state := .done, pending := some .ret }))) : Z2K N [] .ret (roundPost P l R) ρ w := fun a ha => ⟨_, _, run_endRound (some .ret) hL, h⟩
theorem g_doneM {fn : Func} {t D : Nat} {v : Value} {R : Ending → World → Prop} (hr : fn.results = #[.tmp t]) (hv : ρ.get t = some v) (hD : w.heap[D]? = some (.deferred (some []))) (h : R (.returned v) (w.putObj D (.deferred none))) :
  Z2K N [{ target := .collected D, args := #[] }] .ret (bodyPostM (FW none) n P fn R) ρ w := fun a ha => by
 refine ⟨by simp, .inl ⟨_, _, rfl, run_takeDeferred hD, ?_⟩⟩
 exact ⟨v, by rw [results_tmp hr]; simp [Array.getD_eq_getD_getElem?, ha.2.2 t v hv], h⟩
end
theorem enters_of {P : Program} {f : FuncId} {fn : Func} {c : Code} (hf : P.funcs[f]? = some fn) (hname : (fn.name == "runtime.NumGoroutine") = false) (hb : fn.body = some c) : ∀ args w, (callFunc f args).run P w = .ok (.enter f args) w := by
 intro args w
 have h1 : fn.name ≠ "runtime.NumGoroutine" := by simpa using hname
 simp [callFunc, hf, h1, hb]
def Z18 (l : List Nat) : List (List Value) := l.map fun i : Nat => [.int .i64 (i : Int), .int .i64 0]
theorem Z0U (l : List Nat) : Z1g 2 (Z18 l) := fun r hr => by
 obtain ⟨i, _, rfl⟩ := List.mem_map.1 hr
 exact ⟨rfl, by simp [Value.oneCell']⟩
theorem Z3C (G : GW) : (Z0A G).length ≤ G.hs.length := by
 unfold Z0A Z1r
 exact Nat.le_trans (List.length_filter_le _ _) (by simp)
theorem movesR_snoc (l : List Nat) (i : Nat) : Z18 (l ++ [i]) = Z18 l ++ [[.int .i64 (i : Int), .int .i64 0]] := by simp [Z18]
theorem movesD (b : Nat) (X : Gm) (hwf : Wf X.abs) (w : World) (hS : Sep w.heap.size (fps (gW b X)) w (gW b X)) : Z0f P 43 [ptr b] w fun r w' => Z1C w w' (gW b X) (gW b X ++ [As.rk 87 2 r (Z18 (Z0A X.abs))]) := by
 refine enterM func43 rfl ntmps43 rfl ?_
 have H0 : St w w.heap.size (fps (gW b X)) (gW b X) w := St.startS hS
 have hn16 : X.abs.hs.length ≤ 16 := hwf.n16
 have hml := Z3C X.abs
 refine Z3B (Z1J rfl ?_)
 refine Zg (Z01 ?_)
 refine e_x (Z2M (Z2s ?_))
 refine Z3B (Z1J rfl ?_)
 refine Z0X H0 ta50 rfl rfl (fun ob w1 H1 => ?_)
 refine Z01 ?_
 refine e_x (Z2M (Z2s ?_))
 refine Z3B (Z3B (Z1J rfl ?_))
 refine Zm ?_
 refine Zc func57 (readyD b w1) ?_
 rintro _ w2 ⟨bd, rfl, hG⟩
 have H2 := hG _ _ _ _ H1
 clear hG H1
 refine Z01 ?_
 refine e_x (Z2M (Z2s ?_))
 refine Z4z (g_rangeF rfl (enters_of func68 ZK rfl) fun fn a ha rec hrec => ?_)
 obtain ⟨D, hD⟩ : ∃ D, w2.heap.size = D := ⟨_, rfl⟩
 have h3 := H2.new (.deferred (some [])) (As.one D (.deferred (some []))) (by rw [← hD]; exact World.alloc_heap_new w2 _) (fun k hk => by rw [hD]; exact hk)
 have hsz : (w2.alloc (.deferred (some []))).heap.size = D + 1 := by rw [World.size_alloc, hD]
 have h4 := h3.new (.loop (rec .ready none)) (As.one (D + 1) (.loop (rec .ready none))) (by rw [← hsz]; exact World.alloc_heap_new _ _) (fun k hk => by rw [hsz]; exact hk)
 rw [hD]
 generalize (w2.alloc (.deferred (some []))).alloc (.loop (rec .ready none)) = w3 at h4 ⊢
 have h5 := h4.nilk 87 2
 clear h4 h3 H2
 have hrs : ∀ st pe st', { rec st pe with state := st' } = rec st' pe := by subst hrec; intros; rfl
 have hrp : ∀ st pe st' pe', { rec st pe with state := st', pending := pe' } = rec st' pe' := by subst hrec; intros; rfl
 have hpar : ∀ st pe, (rec st pe).params = #[7] := by subst hrec; intros; rfl
 have htm : ∀ st pe, (rec st pe).tmps = a.tmps := by subst hrec; intros; rfl
 have hst : ∀ st pe, (rec st pe).state = st := by subst hrec; intros; rfl
 have hpd : ∀ st pe, (rec st pe).pending = pe := by subst hrec; intros; rfl
 obtain ⟨casg, hra⟩ : ∃ c, c = (rec .ready none).assign := ⟨_, rfl⟩
 obtain ⟨cbod, hrb⟩ : ∃ c, c = (rec .ready none).body := ⟨_, rfl⟩
 have hra2 := hra
 have hrb2 := hrb
 rw [hrec] at hra2 hrb2
 dsimp only at hra2 hrb2
 clear hrec
 have hz1 := Z2P h5
 have hz2 := St.frontL (l := [_]) hz1
 simp only [Zca, Zna] at hz2
 have hz3 := St.frontL (l := [_, _, _, _, _]) hz2
 simp only [Zca, Zna] at hz3
 have hz4 := St.frontL (l := [_, _, _, _]) hz3
 simp only [Zca, Zna] at hz4
 have hz5 := St.frontL (l := [_, _, _, _]) hz4
 simp only [Zca, Zna] at hz5
 have hz6 := Z29 (l := [_, _, _, _]) (τ' := []) (List.Perm.refl _) hz5
 simp only [Zca, Zna] at hz6
 have hz7 := St.frontL (l := [_]) hz6
 simp only [Zca, Zna] at hz7
 have hz8 := St.frontL (l := [_, _, _, _, _]) hz7
 simp only [Zca, Zna] at hz8
 have hz9 := St.frontL (l := [_, _, _, _, _]) hz8
 simp only [Zca, Zna] at hz9
 have hz10 := St.frontL (l := [_, _, _, _, _]) hz9
 simp only [Zca, Zna] at hz10
 have hz11 := St.frontL (l := [_, _, _, _, _]) hz10
 simp only [Zca, Zna] at hz11
 refine Calls.mono (ready1D b bd (D + 1) X hwf (fun pre A => ∃ v, A = As.sep [As.one (D + 1) (.loop (rec .ready none)), As.one D (.deferred (some [])), As.blk ob 50 [v], As.rk 87 2 v (Z18 pre)]) (fun _ _ => False) _ ⟨_, rfl⟩ ?_ w3 (St.rows (τ := [As.blk b 63 (gC X), As.rk 71 3 X.vh (X.hs.map Z0V), As.ro 47 X.vr (X.hs.map (·.vd)), As.sep (Z1t b X), As.blk bd 93 [ptr b], As.sep [As.one (D + 1) (.loop (rec .ready none)), As.one D (.deferred (some [])), As.blk ob 50 [(.slice none 0 0)], As.rk 87 2 (.slice none 0 0) (Z18 [])]]) (σ := []) hz11)) fun e w4 he => ?_
 ·rintro pre i A w1 ⟨v, rfl⟩ hpre hS1
  have H1 := St.startS hS1
  have hpl : pre.length ≤ 16 := by
   have := hpre.length_le
   simp at this
   omega
  have hz21 := St.frontL (l := [_, _, _, _, _]) H1
  simp only [Zca, Zna] at hz21
  have hz22 := Z2z (l := [_, _, _, _]) (τ' := []) (List.Perm.refl _) hz21
  simp only [Zca, Zna] at hz22
  have hL : w1.heap[D + 1]? = some (.loop (rec .ready none)) := hz22.ok (.head _)
  refine yield_of (p := 7) hL (hpar _ _) (by rw [htm]; exact ⟨rfl, (ha.put 7 rfl _).2.1, (ha.put 7 rfl _).2.2⟩) ?_
  rw [← hra, ← hrb, hra2]
  refine Z1J rfl ?_
  refine Z0X hz22 ta87 rfl rfl (fun mb wz23 hz23 => ?_)
  refine Z0m hz23 .head (.zero (.zero .nil)) rfl tz87 rfl rfl (by intro u hu; simp only [List.mem_cons, List.not_mem_nil, or_false] at hu; rcases hu with rfl | rfl <;> rfl) (fun wz24 hz24 => ?_)
  refine Z01 ?_
  refine e_x (Z2M ?_)
  refine g_begin (rec := rec .ready none) (hz24.ok mem1) (hst _ _) ?_
  rw [hrs, hrb2]
  have hz25 := Z1z (o' := .loop (rec .busy none)) hz24 (.tail .head)
  refine Z4z (Z1J rfl ?_)
  refine Z05 hz25 mem3 rfl rfl underlying50 rfl rfl rfl ?_
  refine Z1b hz25 mem0 rfl rfl underlying87 rfl tz87 rfl (.take (.take .nil)) ?_
  refine Z2t hz25 rfl rfl underlying50 ti87 rfl rfl rfl (fun lit wz26 hz26 => ?_)
  have hz27 := St.frontL (l := [_, _, _, _, _]) hz26
  simp only [Zca, Zna] at hz27
  refine Z19 (r := [.int .i64 (i : Int), .int .i64 0]) hz27 rfl rfl underlying50 ti87 rfl rfl rfl rfl (Z1M (hz27.ok mem1)) (by simp [Value.oneCell']) (by simp [Z18]; omega) (by simp [Z18]; omega) (fun v2 wz28 hz28 => ?_)
  have hv2 := Z1O (hz28.ok mem0)
  have hz29 := St.frontL (l := [_, _, _, _, _]) hz28
  simp only [Zca, Zna] at hz29
  refine Z0s hz29 .head .zero rfl tz50 rfl rfl hv2 (fun wz30 hz30 => ?_)
  refine Z01 ?_
  refine e_x (Z2M ?_)
  refine g_blk (g_endn (rec := rec .busy none) (hz30.ok mem4) ?_)
  rw [hrp]
  have hz31 := Z1z (o' := .loop (rec .ready none)) hz30 (.tail (.tail (.tail (.tail .head))))
  have hz32 := St.frontL (l := [_, _, _, _, _, _]) hz31
  simp only [Zca, Zna] at hz32
  have hz33 := St.frontL (l := [_, _]) hz32
  simp only [Zca, Zna] at hz33
  have hz34 := St.frontL (l := [_, _]) hz33
  simp only [Zca, Zna] at hz34
  have hz35 := St.frontL (l := [_, _, _, _, _, _]) hz34
  simp only [Zca, Zna] at hz35
  have hz36 := St.frontL (l := [_, _, _, _, _, _]) hz35
  simp only [Zca, Zna] at hz36
  have hz37 := Z29 (l := [_, _, _, _]) (τ' := []) (List.Perm.refl _) hz36
  simp only [Zca, Zna] at hz37
  have hz38 := St.frontL (l := [_, _, _, _, _, _, _]) hz37
  simp only [Zca, Zna] at hz38
  have hz39 := St.frontL (l := [_, _, _, _, _, _, _]) hz38
  simp only [Zca, Zna] at hz39
  have hz40 := St.frontL (l := [_, _, _, _, _, _, _]) hz39
  simp only [Zca, Zna] at hz40
  have hz41 := St.frontL (l := [_, _, _, _, _, _, _]) hz40
  simp only [Zca, Zna] at hz41
  have hz42 := St.frontL (l := [_, _, _, _, _, _, _]) hz41
  simp only [Zca, Zna] at hz42
  refine .inl ⟨rfl, _, ⟨v2, rfl⟩, St.transS ?_⟩
  have hze := Z3b (τ := [_, _, _, _, _, _]) (σ := [_, _]) hz42
  rw [movesR_snoc]
  exact hze
 obtain ⟨r, rfl, T, hT, hTr⟩ := he
 rcases hT with ⟨A, rfl, v, rfl⟩ | ⟨_, _, hf⟩
 ·have h9 := hTr _ _ _ [] (by rw [List.append_nil]; exact hz11)
  simp only [List.append_nil] at h9
  refine ⟨_, rfl, ?_⟩
  have hz61 := St.frontL (l := [_, _, _, _, _]) h9
  simp only [Zca, Zna] at hz61
  have hz62 := Z2z (l := [_, _, _, _]) (τ' := []) (List.Perm.refl _) hz61
  simp only [Zca, Zna] at hz62
  refine ⟨none, w4.putObj (D + 1) (.loop (rec .exhausted none)), by rw [run_endLoop (hz62.ok (.head _)) (by rw [hst]; decide), hrs, hpd], ?_⟩
  have hz63 := Z1z (o' := .loop (rec .exhausted none)) hz62 .head
  refine (g_blk (Z2s ?_) : Z2K _ [{ target := .collected D, args := #[] }] .normal _ _ _) a ha
  refine Z3B (Z1J rfl ?_)
  refine Z05 hz63 mem2 rfl rfl underlying50 rfl rfl rfl ?_
  refine Zg (Z01 ?_)
  refine e_x (Z2M (Z2s ?_))
  refine g_ret ?_
  refine g_doneM (D := D) results43 rfl (hz63.ok mem1) ?_
  have hz64 := Z1z (o' := .deferred none) hz63 (.tail .head)
  have hz65 := St.frontL (l := [_, _, _]) hz64
  simp only [Zca, Zna] at hz65
  have hz66 := St.frontL (l := [_, _, _, _, _, _, _, _]) hz65
  simp only [Zca, Zna] at hz66
  have hz67 := St.frontL (l := [_, _, _, _, _, _, _, _]) hz66
  simp only [Zca, Zna] at hz67
  have hz68 := St.frontL (l := [_, _, _, _, _, _, _, _]) hz67
  simp only [Zca, Zna] at hz68
  have hz69 := St.frontL (l := [_, _, _, _, _, _, _, _]) hz68
  simp only [Zca, Zna] at hz69
  exact ⟨_, rfl, St.transS (Z3b (τ := [_, _, _, _, _]) (σ := [_, _, _, _, _]) hz69)⟩
 exact hf.elim
theorem g_doneC {P : Program} {N n : Nat} {ρ : Env} {w : World} {fn : Func} {r : ResultVar} {D : Nat} {v : Value} {R : Ending → World → Prop} (hr : fn.results = #[r]) (hD : w.heap[D]? = some (.deferred (some []))) (h : ResV P (w.putObj D (.deferred none)) ρ [r] [v]) (hR : R (.returned v) (w.putObj D (.deferred none))) :
  Z2K N [{ target := .collected D, args := #[] }] .ret (bodyPostM (FW none) n P fn R) ρ w := fun a ha => by
 refine ⟨by simp, .inl ⟨_, _, rfl, run_takeDeferred hD, ?_⟩⟩
 have h1 := h.run1 ha hr
 exact ⟨v, h1, hR⟩
def Z1E (G : GW) (k : Nat) : GW := match (Z0A G)[k]? with
 | some i => Z1S G i
 | none => G
theorem Z2O {G : GW} {i : Nat} (h : i ∈ Z0A G) : i < G.hs.length ∧ mayG G i = true := by
 obtain ⟨h1, h2⟩ := List.mem_filter.1 h
 exact ⟨List.mem_range.1 h1, h2⟩
theorem doD (b : Nat) (X : Gm) (hwf : Wf X.abs) (k : Int) (hk : 0 ≤ k ∧ k ≤ 9223372036854775807) (w : World) (hS : Sep w.heap.size (fps (gW b X)) w (gW b X)) : Z0f P 32 [ptr b, .int .i64 k] w fun r w' => ∃ Y : Gm, r = .bool ((Z0A X.abs)[k.toNat]?).isSome ∧ Y.abs = Z1E X.abs k.toNat ∧ Z1C w w' (gW b X) (gW b Y) := by
 refine enterM func32 rfl ntmps32 rfl ?_
 have H0 : St w w.heap.size (fps (gW b X)) (gW b X) w := St.startS hS
 have hn16 : X.abs.hs.length ≤ 16 := hwf.n16
 have hml := Z3C X.abs
 refine Z3B (Z1J rfl ?_)
 refine Z49 H0 rfl rfl rfl rfl (fun db w1 H1 => ?_)
 refine Z49 H1 rfl rfl rfl rfl (fun kb w2 H2 => ?_)
 refine Z0X H2 ta4 rfl rfl (fun rb w3 H3 => ?_)
 refine Z01 ?_
 refine e_x (Z2M (Z2s ?_))
 refine Z3B (Z3B (Z1J rfl ?_))
 refine Z05 H3 mem2 rfl rfl underlying93 rfl rfl rfl ?_
 refine Zc func57 (readyD b w3) ?_
 rintro _ w4 ⟨bd, rfl, hG⟩
 have H4 := hG _ _ _ _ H3
 clear hG H1 H2 H3
 refine Z01 ?_
 refine e_x (Z2M (Z2s ?_))
 refine Z4z (g_rangeF rfl (enters_of func68 ZK rfl) fun fn a ha rec hrec => ?_)
 obtain ⟨D, hD⟩ : ∃ D, w4.heap.size = D := ⟨_, rfl⟩
 have h3 := H4.new (.deferred (some [])) (As.one D (.deferred (some []))) (by rw [← hD]; exact World.alloc_heap_new w4 _) (fun k hk => by rw [hD]; exact hk)
 have hsz : (w4.alloc (.deferred (some []))).heap.size = D + 1 := by rw [World.size_alloc, hD]
 have h4 := h3.new (.loop (rec .ready none)) (As.one (D + 1) (.loop (rec .ready none))) (by rw [← hsz]; exact World.alloc_heap_new _ _) (fun k hk => by rw [hsz]; exact hk)
 rw [hD]
 generalize (w4.alloc (.deferred (some []))).alloc (.loop (rec .ready none)) = w5 at h4 ⊢
 clear h3 H4
 have hrs : ∀ st pe st', { rec st pe with state := st' } = rec st' pe := by subst hrec; intros; rfl
 have hrp : ∀ st pe st' pe', { rec st pe with state := st', pending := pe' } = rec st' pe' := by subst hrec; intros; rfl
 have hpar : ∀ st pe, (rec st pe).params = #[8] := by subst hrec; intros; rfl
 have htm : ∀ st pe, (rec st pe).tmps = a.tmps := by subst hrec; intros; rfl
 have hst : ∀ st pe, (rec st pe).state = st := by subst hrec; intros; rfl
 have hpd : ∀ st pe, (rec st pe).pending = pe := by subst hrec; intros; rfl
 obtain ⟨casg, hra⟩ : ∃ c, c = (rec .ready none).assign := ⟨_, rfl⟩
 obtain ⟨cbod, hrb⟩ : ∃ c, c = (rec .ready none).body := ⟨_, rfl⟩
 have hra2 := hra
 have hrb2 := hrb
 rw [hrec] at hra2 hrb2
 dsimp only at hra2 hrb2
 clear hrec
 have hz1 := Z2P h4
 have hz2 := St.frontL (l := [_, _, _, _, _, _]) hz1
 simp only [Zca, Zna] at hz2
 have hz3 := St.frontL (l := [_, _, _, _, _]) hz2
 simp only [Zca, Zna] at hz3
 have hz4 := St.frontL (l := [_, _, _, _, _, _]) hz3
 simp only [Zca, Zna] at hz4
 have hz5 := St.frontL (l := [_, _, _, _, _]) hz4
 simp only [Zca, Zna] at hz5
 have hz6 := St.frontL (l := [_, _, _, _, _]) hz5
 simp only [Zca, Zna] at hz6
 have hz7 := Z29 (l := [_, _, _, _, _]) (τ' := []) (List.Perm.refl _) hz6
 simp only [Zca, Zna] at hz7
 have hz8 := St.frontL (l := [_]) hz7
 simp only [Zca, Zna] at hz8
 have hz9 := St.frontL (l := [_, _, _, _, _]) hz8
 simp only [Zca, Zna] at hz9
 have hz10 := St.frontL (l := [_, _, _, _, _]) hz9
 simp only [Zca, Zna] at hz10
 have hz11 := St.frontL (l := [_, _, _, _, _]) hz10
 simp only [Zca, Zna] at hz11
 have hz12 := St.frontL (l := [_, _, _, _, _]) hz11
 simp only [Zca, Zna] at hz12
 refine Calls.mono (ready1D b bd (D + 1) X hwf (fun pre A => A = As.sep [As.one (D + 1) (.loop (rec .ready none)), As.one D (.deferred (some [])), As.blk kb 3 [.int .i64 (k - (pre.length : Int))], As.blk rb 4 [.bool false], As.blk db 93 [ptr b]] ∧ (pre.length : Int) ≤ k) (fun pre T => ∃ (Y : Gm) (pre0 : List Nat) (i : Nat), pre = pre0 ++ [i] ∧ (pre0.length : Int) = k ∧ Y.abs = Z1S X.abs i ∧ T = gW b Y ++ [As.blk bd 93 [ptr b], As.sep [As.one (D + 1) (.loop (rec .done (some .ret))), As.one D (.deferred (some [])), As.blk kb 3 [.int .i64 (0)], As.blk rb 4 [.bool true], As.blk db 93 [ptr b]]]) _ ⟨rfl, by simpa using hk.1⟩ ?_ w5 (St.rows (τ := [As.blk b 63 (gC X), As.rk 71 3 X.vh (X.hs.map Z0V), As.ro 47 X.vr (X.hs.map (·.vd)), As.sep (Z1t b X), As.blk bd 93 [ptr b], As.sep [As.one (D + 1) (.loop (rec .ready none)), As.one D (.deferred (some [])), As.blk kb 3 [.int .i64 (k - (([] : List Nat).length : Int))], As.blk rb 4 [.bool false], As.blk db 93 [ptr b]]]) (σ := []) (hz12.cast (by simp)))) fun e w4 he => ?_
 ·rintro pre i A w1 ⟨rfl, hpk⟩ hpre hS1
  have H1 := St.startS hS1
  obtain ⟨hi, hmay⟩ := Z2O (hpre.subset (List.mem_append_right _ (.head _)))
  have hz21 := St.frontL (l := [_, _, _, _, _]) H1
  simp only [Zca, Zna] at hz21
  have hz22 := Z2z (l := [_, _, _, _, _]) (τ' := []) (List.Perm.refl _) hz21
  simp only [Zca, Zna] at hz22
  have hL : w1.heap[D + 1]? = some (.loop (rec .ready none)) := hz22.ok (.head _)
  refine yield_of (p := 8) hL (hpar _ _) (by rw [htm]; exact ⟨rfl, (ha.put 8 rfl _).2.1, (ha.put 8 rfl _).2.2⟩) ?_
  rw [← hra, ← hrb, hra2]
  refine Z1J rfl ?_
  refine Z0X hz22 ta87 rfl rfl (fun mb wz23 hz23 => ?_)
  refine Z0m hz23 .head (.zero (.zero .nil)) rfl tz87 rfl rfl (by intro u hu; simp only [List.mem_cons, List.not_mem_nil, or_false] at hu; rcases hu with rfl | rfl <;> rfl) (fun wz24 hz24 => ?_)
  refine Z01 ?_
  refine e_x (Z2M ?_)
  refine g_begin (rec := rec .ready none) (hz24.ok mem1) (hst _ _) ?_
  rw [hrs, hrb2]
  have hz25 := Z1z (o' := .loop (rec .busy none)) hz24 (.tail .head)
  refine Z4z (Z3B (Z3B (Z1J rfl ?_)))
  refine Z05 hz25 mem3 rfl rfl underlying3 rfl rfl rfl ?_
  refine Ze ?_
  refine Z01 ?_
  refine e_x (Z2M (Z2s ?_))
  refine g_cond rfl (fun hk0 => ?_) (fun hk0 => ?_)
  ·refine Z3B (Z1J rfl ?_)
   refine Z05 hz25 mem5 rfl rfl underlying93 rfl rfl rfl ?_
   refine Z1b hz25 mem0 rfl rfl underlying87 rfl tz87 rfl (.take (.take .nil)) ?_
   have hz41 := St.frontL (l := [_, _, _, _, _, _, _, _, _, _]) hz25
   simp only [Zca, Zna] at hz41
   have hz42 := St.frontL (l := [_, _, _, _, _, _, _, _, _, _]) hz41
   simp only [Zca, Zna] at hz42
   have hz43 := St.frontL (l := [_, _, _, _, _, _, _, _, _, _]) hz42
   simp only [Zca, Zna] at hz43
   have hz44 := St.frontL (l := [_, _, _, _, _, _, _, _, _, _]) hz43
   simp only [Zca, Zna] at hz44
   refine Z0I rfl rfl func58 rfl rfl (.cons rfl (.cons rfl .nil)) (moveD b X hwf i (by simpa [Gm.abs] using hi) hmay 0 _ (St.rows (τ := gW b X) hz44)) ?_
   rintro _ wm ⟨Y, rfl, hY, hX2⟩
   have hz45 := hX2 _ _ _ _ hz44
   simp only [gW, List.cons_append, List.nil_append] at hz45
   refine Z01 ?_
   refine e_x (Z2M (Z2s ?_))
   refine Z3B (Z1J rfl ?_)
   refine Z0s hz45 (.tail (.tail (.tail (.tail (.tail (.tail (.tail (.tail .head)))))))) .zero rfl tz4 rfl rfl rfl (fun wz46 hz46 => ?_)
   refine Z01 ?_
   refine e_x (Z2M (Z2s ?_))
   refine g_ret (g_then_ret (g_blk_ret (g_endr (rec := rec .busy none) (hz46.ok mem5) ?_)))
   rw [hrp]
   have hz47 := Z1z (o' := .loop (rec .done (some .ret))) hz46 (.tail (.tail (.tail (.tail (.tail .head)))))
   have hz48 := St.frontL (l := [_, _, _, _, _, _, _, _, _, _]) hz47
   simp only [Zca, Zna] at hz48
   have hz49 := St.frontL (l := [_, _, _, _, _, _, _, _, _, _]) hz48
   simp only [Zca, Zna] at hz49
   have hz50 := St.frontL (l := [_, _, _, _, _, _, _, _, _, _]) hz49
   simp only [Zca, Zna] at hz50
   have hz51 := St.frontL (l := [_, _, _, _, _, _, _, _, _, _]) hz50
   simp only [Zca, Zna] at hz51
   have hz52 := St.frontL (l := [_, _, _, _, _, _, _, _, _, _]) hz51
   simp only [Zca, Zna] at hz52
   have hz53 := St.frontL (l := [_, _, _, _, _, _, _, _, _, _]) hz52
   simp only [Zca, Zna] at hz53
   have hz54 := Z29 (l := [_, _, _, _, _]) (τ' := []) (List.Perm.refl _) hz53
   simp only [Zca, Zna] at hz54
   have hz55 := St.frontL (l := [_, _, _, _, _, _]) hz54
   simp only [Zca, Zna] at hz55
   have hz56 := St.frontL (l := [_, _, _, _, _]) hz55
   simp only [Zca, Zna] at hz56
   have hz57 := St.frontL (l := [_, _, _, _, _]) hz56
   simp only [Zca, Zna] at hz57
   have hz58 := St.frontL (l := [_, _, _, _, _]) hz57
   simp only [Zca, Zna] at hz58
   have hz59 := St.frontL (l := [_, _, _, _, _]) hz58
   simp only [Zca, Zna] at hz59
   refine .inr ⟨rfl, _, ⟨Y, pre, i, rfl, ZO, hY, rfl⟩, St.transS ?_⟩
   have hze := Z3b (τ := [_, _, _, _, _, _]) (σ := [_]) hz59
   rw [show k - (pre.length : Int) = 0 from hk0] at hze ⊢
   exact hze
  refine g_skip (Z2s (Z1J rfl ?_))
  refine Z05 hz25 mem3 rfl rfl underlying3 rfl rfl rfl ?_
  refine Z0W rfl rfl rfl rfl (Z0l ZO) ?_
  refine Z0s hz25 (.tail (.tail (.tail .head))) .zero rfl tz3 rfl rfl rfl (fun wz61 hz61 => ?_)
  refine Z01 ?_
  refine e_x (Z2M ?_)
  refine g_blk (g_endn (rec := rec .busy none) (hz61.ok mem1) ?_)
  rw [hrp]
  have hz62 := Z1z (o' := .loop (rec .ready none)) hz61 (.tail .head)
  have hz63 := St.frontL (l := [_, _, _, _, _, _]) hz62
  simp only [Zca, Zna] at hz63
  have hz64 := St.frontL (l := [_, _, _, _, _, _]) hz63
  simp only [Zca, Zna] at hz64
  have hz65 := St.frontL (l := [_, _, _, _, _, _]) hz64
  simp only [Zca, Zna] at hz65
  have hz66 := St.frontL (l := [_, _, _, _, _, _]) hz65
  simp only [Zca, Zna] at hz66
  have hz67 := St.frontL (l := [_, _, _, _, _, _]) hz66
  simp only [Zca, Zna] at hz67
  have hz68 := St.frontL (l := [_, _, _, _, _, _]) hz67
  simp only [Zca, Zna] at hz68
  have hz69 := Z29 (l := [_, _, _, _, _]) (τ' := []) (List.Perm.refl _) hz68
  simp only [Zca, Zna] at hz69
  have hz70 := St.frontL (l := [_, _, _, _, _, _]) hz69
  simp only [Zca, Zna] at hz70
  have hz71 := St.frontL (l := [_, _, _, _, _, _]) hz70
  simp only [Zca, Zna] at hz71
  have hz72 := St.frontL (l := [_, _, _, _, _, _]) hz71
  simp only [Zca, Zna] at hz72
  have hz73 := St.frontL (l := [_, _, _, _, _, _]) hz72
  simp only [Zca, Zna] at hz73
  have hz74 := St.frontL (l := [_, _, _, _, _, _]) hz73
  simp only [Zca, Zna] at hz74
  refine .inl ⟨rfl, _, ⟨rfl, by simp; omega⟩, St.transS ?_⟩
  have hze := Z3b (τ := [_, _, _, _, _, _]) (σ := [_]) hz74
  rw [show k - ((pre ++ [i]).length : Int) = k - (pre.length : Int) - 1 by simp; omega]
  exact hze
 obtain ⟨r, rfl, T, hT, hTr⟩ := he
 have h9 := hTr _ _ _ [] (hz12.cast (by simp))
 rcases hT with ⟨A, rfl, rfl, hlk⟩ | ⟨_, hpre, Y, pre0, i, rfl, hlk, hY, rfl⟩
 ·simp only [List.append_nil] at h9
  have hnone : (Z0A X.abs)[k.toNat]? = none := List.getElem?_eq_none ZO
  have hnone : (Z0A X.abs)[k.toNat]? = none ∧ Z1E X.abs k.toNat = X.abs := ⟨hnone, by unfold Z1E; rw [hnone]⟩
  refine ⟨_, rfl, ?_⟩
  have hz81 := St.frontL (l := [_, _, _, _, _]) h9
  simp only [Zca, Zna] at hz81
  have hz82 := Z2z (l := [_, _, _, _, _]) (τ' := []) (List.Perm.refl _) hz81
  simp only [Zca, Zna] at hz82
  refine ⟨none, w4.putObj (D + 1) (.loop (rec .exhausted none)), by rw [run_endLoop (hz82.ok (.head _)) (by rw [hst]; decide), hrs, hpd], ?_⟩
  have hz83 := Z1z (o' := .loop (rec .exhausted none)) hz82 .head
  refine (g_blk (Z2s ?_) : Z2K _ [{ target := .collected D, args := #[] }] .normal _ _ _) a ha
  refine Z3B (Z1J rfl ?_)
  refine Z0s hz83 (.tail (.tail (.tail .head))) .zero rfl tz4 rfl rfl rfl (fun wz84 hz84 => ?_)
  refine Z01 ?_
  refine e_x (Z2M (Z2s ?_))
  have hz85 := Z1z (o' := .deferred none) hz84 (.tail .head)
  refine g_ret (g_doneC (D := D) results32 (hz84.ok mem1) (.cell rfl (Z1W underlying4 rfl (blk_cell (hz85.ok mem3) rfl).1) .nil) ?_)
  have hz86 := St.frontL (l := [_, _, _, _, _, _, _, _, _]) hz85
  simp only [Zca, Zna] at hz86
  have hz87 := St.frontL (l := [_, _, _, _, _, _, _, _, _]) hz86
  simp only [Zca, Zna] at hz87
  have hz88 := St.frontL (l := [_, _, _, _, _, _, _, _, _]) hz87
  simp only [Zca, Zna] at hz88
  have hz89 := St.frontL (l := [_, _, _, _, _, _, _, _, _]) hz88
  simp only [Zca, Zna] at hz89
  exact ⟨_, rfl, _, by rw [hnone.1]; rfl, hnone.2.symm, St.transS (Z3b (τ := [_, _, _, _]) (σ := [_, _, _, _, _, _, _]) hz89)⟩
 simp only [gW, List.cons_append, List.nil_append, List.append_nil] at h9
 have hsome : (Z0A X.abs)[k.toNat]? = some i := by
  obtain ⟨t, ht⟩ := hpre
  rw [← ht, show k.toNat = pre0.length by omega]
  simp
 have hsome : (Z0A X.abs)[k.toNat]? = some i ∧ Z1E X.abs k.toNat = Z1S X.abs i := ⟨hsome, by unfold Z1E; rw [hsome]⟩
 refine ⟨_, rfl, ?_⟩
 have hz101 := St.frontL (l := [_, _, _, _, _]) h9
 simp only [Zca, Zna] at hz101
 have hz102 := Z2z (l := [_, _, _, _, _]) (τ' := []) (List.Perm.refl _) hz101
 simp only [Zca, Zna] at hz102
 refine ⟨(some .ret), w4.putObj (D + 1) (.loop (rec .exhausted (some .ret))), by rw [run_endLoop (hz102.ok (.head _)) (by rw [hst]; decide), hrs, hpd], ?_⟩
 have hz103 := Z1z (o' := .loop (rec .exhausted (some .ret))) hz102 .head
 refine (?_ : RunG _ _ none 0 [{ target := .collected D, args := #[] }] .ret _ _ _) a ha
 have hz104 := Z1z (o' := .deferred none) hz103 (.tail .head)
 refine g_ret (g_blk_ret (g_then_ret (g_doneC (D := D) results32 (hz103.ok mem1) (.cell rfl (Z1W underlying4 rfl (blk_cell (hz104.ok mem3) rfl).1) .nil) ?_)))
 have hz105 := St.frontL (l := [_, _, _, _, _, _, _, _, _]) hz104
 simp only [Zca, Zna] at hz105
 have hz106 := St.frontL (l := [_, _, _, _, _, _, _, _, _]) hz105
 simp only [Zca, Zna] at hz106
 have hz107 := St.frontL (l := [_, _, _, _, _, _, _, _, _]) hz106
 simp only [Zca, Zna] at hz107
 have hz108 := St.frontL (l := [_, _, _, _, _, _, _, _, _]) hz107
 simp only [Zca, Zna] at hz108
 exact ⟨_, rfl, _, by rw [hsome.1]; rfl, by rw [hsome.2]; exact hY, St.transS (Z3b (τ := [_, _, _, _]) (σ := [_, _, _, _, _, _, _]) hz108)⟩
end Go.Proofs.YtgfkagaacdblbaaGreat.W
