/- ranges over a function: rules -/
import Derived.RangeFuncLeaves
import Derived.RangeFuncFrom
import Derived.Test.YtgfkagaacdblbaaYa
set_option linter.unusedVariables false
set_option linter.unusedSimpArgs false
set_option maxRecDepth 10000
namespace Go.Proofs.Ytgfkagaacdblbaa.W
open Go.Vc Go.RowKit
abbrev FW (r : Option Nat) : Fence := { Fence.wide with round := r }
def noDef (o : Oper) : Bool := match o.op with | .defer _ => false | _ => true
section
variable {P : Program} {N n : Nat} {r : Option Nat} {ds : List Deferred} {Q : Post} {ρ : Env} {w : World} {ops : Array Oper}
theorem rowsIn_FW {m : Nat} {row : String} {args : Array Value} {R : Value → World → Prop} (h : Rows P row args w R) : RowsIn (FW r) m P row args w R := fun c cs _ => by
 obtain ⟨v, w', hr, hs⟩ := h c cs
 exact ⟨v, w', hr, stepsIn_wide.2 hs⟩
theorem callsIn_FW {m : Nat} {f : FuncId} {args : Array Value} {R : Ending → World → Prop} (h : Calls P f args w R) : CallsIn (FW r) m P f args w R := (callsIn_wide (n := m)).2 h
theorem no_def {R : Act → World → Prop} : ∀ (l : List Oper) (a : Act) (w : World), a.defers ≠ [] → ¬ wpList P ops (fun e a w => e = .normal ∧ a.defers = [] ∧ R a w) l a w
 | [], a, w, hd, h => hd h.2.1
 | o :: l, a, w, hd, h => by
  have ih := no_def (R := R) l
  have hput : ∀ (a : Act) d v, (a.put d v).defers = a.defers := fun a d v => by cases d <;> rfl
  unfold wpList at h
  split at h
  ·rcases h with h | ⟨_, a', w', hx, _⟩
   ·unfold Oper.wp at h
    generalize (execOp a.eval o).run P w = res at h
    match res, h with
    | .ok (.value v) w', h => exact ih _ _ (by rw [hput]; exact hd) h
    | .ok .skip w', h => exact ih _ _ (by rw [hput]; exact hd) h
    | .ok (.defer d) w', h => exact ih _ _ (by rw [hput]; simp) h
    | .ok (.enter f args) w', h =>
     obtain ⟨e, w'', fr, hr, _⟩ := h []
     match e, hr with
     | .returned v, hr => exact ih _ _ (by rw [hput]; exact hd) hr
     | .panicked ch, hr => exact absurd hr.1 (by simp)
     | .outgrown, ⟨_, _, hr⟩ => exact absurd hr.1 (by simp)
    | .ok (.row row args) w', h =>
     obtain ⟨v, w'', hr, _⟩ := h default []
     exact ih _ _ (by rw [hput]; exact hd) hr
    | .halt (.panic v) w', h => exact absurd h.1 (by simp)
   ·cases hx
  ·exact ih _ _ (by rw [hput]; exact hd) h
theorem list_gen {l2 : List Oper} : ∀ (l1 : List Oper), l1.all noDef = true → ∀ (a : Act) (w : World), a.defers = [] → wpList P ops (fun e a w => e = .normal ∧ a.defers = [] ∧ wpListIn (FW r) n P ops Q l2 { a with defers := ds } w) l1 a w → wpListIn (FW r) n P ops Q (l1 ++ l2) { a with defers := ds } w
 | [], _, a, w, _, h => h.2.2
 | o :: l, hd, a, w, h0, h => by
  simp only [List.all_cons, Bool.and_eq_true] at hd
  have ih := list_gen (l2 := l2) l hd.2
  have hput : ∀ d v, ({ a with defers := ds } : Act).put d v = { a.put d v with defers := ds } := fun d v => by cases d <;> rfl
  have hdef : ∀ d v, (a.put d v).defers = [] := fun d v => by rw [← h0]; cases d <;> rfl
  unfold wpList at h
  show wpListIn (FW r) n P ops Q (o :: (l ++ l2)) { a with defers := ds } w
  unfold wpListIn
  split at h
  ·rename_i hw
   rw [if_pos hw]
   rcases h with h | ⟨_, a', w', hx, _⟩
   ·unfold Oper.wp at h
    refine ⟨fun _ _ => trivial, ?_⟩
    rw [Oper.semAt_eq _ _ _ (fun c hc => by simp [noDef, hc] at hd)]
    show o.uponIn (FW r) n P { a with defers := ds } _ Q ((execOp a.eval o).run P w)
    generalize (execOp a.eval o).run P w = res at h ⊢
    match res, h with
    | .ok (.value v) w', h => rw [Oper.uponIn_value, hput]; exact ih _ _ (hdef _ _) h
    | .ok .skip w', h => rw [Oper.uponIn_skip, hput]; exact ih _ _ (hdef _ _) h
    | .ok (.defer d) w', h => exact absurd h (no_def _ _ _ (by cases o.dst <;> simp [Act.put]))
    | .ok (.enter f args) w', h =>
     refine ⟨fun e => by simp [Fence.wide] at e, callsIn_FW (Calls.mono h fun e w'' hr => ?_)⟩
     match e, hr with
     | .returned v, hr =>
      show wpListIn (FW r) n P ops Q (l ++ l2) (({ a with defers := ds } : Act).put o.dst v) w''
      rw [hput]
      exact ih _ _ (hdef _ _) hr
     | .panicked ch, hr => exact absurd hr.1 (by simp)
     | .outgrown, ⟨_, _, hr⟩ => exact absurd hr.1 (by simp)
    | .ok (.row row args) w', h => exact ⟨fun e => by simp [Fence.wide] at e, rowsIn_FW (Rows.mono h fun v w'' hr => by rw [hput]; exact ih _ _ (hdef _ _) hr)⟩
    | .halt (.panic v) w', h => exact absurd h.1 (by simp)
   ·cases hx
  ·rename_i hw
   rw [if_neg hw]
   exact ⟨fun _ _ => trivial, by rw [hput]; exact ih _ _ (hdef _ _) h⟩
abbrev GK (P : Program) (ops : Array Oper) (r : Option Nat) (n : Nat) (ds : List Deferred) (Q : Post) (l2 : List Oper) : Post := fun e a w => e = .normal ∧ a.defers = [] ∧ wpListIn (FW r) n P ops Q l2 { a with defers := ds } w
def RunX (P : Program) (N : Nat) (r : Option Nat) (n : Nat) (ds : List Deferred) (ops : Array Oper) (Q : Post) (l : List Oper) (ρ : Env) (w : World) : Prop := ∀ a, Fits N ρ a → wpListIn (FW r) n P ops Q l { a with defers := ds } w
theorem x_pre (l1 : List Oper) {l2 : List Oper} (hd : l1.all noDef = true) (h : RunL P N ops ⟨false, GK P ops r n ds Q l2⟩ l1 ρ w) : RunX P N r n ds ops Q (l1 ++ l2) ρ w := fun a ha => list_gen l1 hd a w ha.1 (h a ha)
theorem e_x {l2 : List Oper} (h : RunX P N r n ds ops Q l2 ρ w) : RunE N .normal (GK P ops r n ds Q l2) ρ w := fun a ha => ⟨rfl, ha.1, h a ha⟩
def RunG (P : Program) (N : Nat) (r : Option Nat) (n : Nat) (ds : List Deferred) (c : Code) (Q : Post) (ρ : Env) (w : World) : Prop := ∀ a, Fits N ρ a → c.wpIn (FW r) n P Q { a with defers := ds } w
def RunGE (N : Nat) (ds : List Deferred) (e : Exit) (Q : Post) (ρ : Env) (w : World) : Prop := ∀ a, Fits N ρ a → Q e { a with defers := ds } w
theorem x_nil (h : RunGE N ds .normal Q ρ w) : RunX P N r n ds ops Q [] ρ w := fun a ha => h a ha
theorem g_plain {i : Nat} {l : List Oper} (hd : l.all noDef = true) (h : RunL P N l.toArray ⟨false, GK P l.toArray r n ds Q []⟩ l ρ w) : RunG P N r n ds (.region i l.toArray false) Q ρ w := fun a ha => by
 have := list_gen l hd a w ha.1 (h a ha)
 rw [List.append_nil] at this
 exact wpIn_region_lit this
theorem g_seq {x y : Code} (h : RunG P N r n ds x (Exit.then (y.wpIn (FW r) n P Q) Q) ρ w) : RunG P N r n ds (.seq x y) Q ρ w := fun a ha => wpIn_seq (h a ha)
theorem g_then {y : Code} (h : RunG P N r n ds y Q ρ w) : RunGE N ds .normal (Exit.then (y.wpIn (FW r) n P Q) Q) ρ w := fun a ha => h a ha
theorem g_then_ret {K : Act → World → Prop} (h : RunGE N ds .ret Q ρ w) : RunGE N ds .ret (Exit.then K Q) ρ w := fun a ha => h a ha
theorem g_skip (h : RunGE N ds .normal Q ρ w) : RunG P N r n ds .skip Q ρ w := fun a ha => wpIn_skip (h a ha)
theorem g_ret (h : RunGE N ds .ret Q ρ w) : RunG P N r n ds .ret Q ρ w := fun a ha => wpIn_ret (h a ha)
theorem g_block {i : Nat} {c : Code} (h : RunG P N r n ds c (Exit.inBlock i Q) ρ w) : RunG P N r n ds (.block i c) Q ρ w := fun a ha => wpIn_block (h a ha)
theorem g_blk {i : Nat} (h : RunGE N ds .normal Q ρ w) : RunGE N ds .normal (Exit.inBlock i Q) ρ w := fun a ha => h a ha
theorem g_blk_ret {i : Nat} (h : RunGE N ds .ret Q ρ w) : RunGE N ds .ret (Exit.inBlock i Q) ρ w := fun a ha => h a ha
theorem g_cond {c : Operand} {x y : Code} {p : Prop} {_ : Decidable p} (hc : evalE ρ c = some (.bool (decide p))) (ht : p → RunG P N r n ds x Q ρ w) (hf : ¬ p → RunG P N r n ds y Q ρ w) : RunG P N r n ds (.cond c x y) Q ρ w := fun a ha =>
 wpIn_cond_split (t := decide p) (show ({ a with defers := ds } : Act).eval c = _ from ha.eval hc) (fun h => ht (of_decide_eq_true h) a ha) (fun h => hf (of_decide_eq_false h) a ha)
theorem c_regionX {i : Nat} {l : List Oper} (h : RunX P N none 0 [] l.toArray Q l ρ w) : RunC P N (.region i l.toArray false) Q ρ w := fun a ha => by
 have h1 := wpIn_region_lit (F := FW none) (n := 0) (id := i) (h a ha)
 rw [show ({ a with defers := [] } : Act) = a from by rw [← ha.1]] at h1
 exact wpIn_wide.1 h1
theorem x_yield {d : Nat} {ty : TypeId} {pos : String} {af : Array Edge} {g : Option (Nat × Bool)} {x : Operand} {l : Nat} {args : List Operand} {vals : List Value} {ats : Array TypeId} {R : Ending → World → Prop} {rest : List Oper} (hg : wantE ops ρ g = true) (hN : Nat.blt d N = true) (hx : evalE ρ x = some (.func (.yield l) #[] #[])) (hv : EvalArgs ρ args vals)
  (h : YieldAt (FW r) (n - 1) P l vals.toArray w R) (hR : ∀ e w', R e w' → ∃ v, e = .returned v ∧ RunX P N r n ds ops Q rest ((d, v) :: ρ) w') : RunX P N r n ds ops Q (⟨some d, .call ⟨.value x, args.toArray, ats⟩, ty, pos, af, g⟩ :: rest) ρ w := fun a ha => by
 obtain ⟨fn, tmps, assign, body, hy, hr⟩ := h
 unfold wpListIn
 have hwt : Region.wanted ⟨some d, .call ⟨.value x, args.toArray, ats⟩, ty, pos, af, g⟩ (yielded ops a.tmps) = true := wanted_of ha hg
 rw [if_pos hwt]
 refine ⟨fun _ _ => trivial, ?_⟩
 rw [Oper.semAt_eq _ _ _ (fun c hc => by cases hc)]
 have hmap : args.toArray.map a.eval = vals.toArray := by rw [← hv.map ha]; simp
 have : (execOp ({ a with defers := ds } : Act).eval ⟨some d, .call ⟨.value x, args.toArray, ats⟩, ty, pos, af, g⟩).run P w = .ok (.round l fn tmps assign body) w := by
  have e1 : ({ a with defers := ds } : Act).eval = a.eval := rfl
  rw [e1]
  simp only [execOp, resolve, hmap, ha.eval hx]
  simp [Deferred.ofValue, invoke, hy]
 rw [this, Oper.uponIn_round]
 refine ⟨fun e => by simp [Fence.wide] at e, hr.mono fun e w' he => ?_⟩
 obtain ⟨v, rfl, h⟩ := hR e w' he
 exact h _ (ha.put d hN v)
end
def movesTo (G : GW) (n : Nat) : List Nat := (List.range n).filter (mayG G)
def movesG (G : GW) : List Nat := movesTo G G.hs.length
theorem movesTo_succ (G : GW) (n : Nat) : movesTo G (n + 1) = movesTo G n ++ (if mayG G n = true then [n] else []) := by
 unfold movesTo
 rw [List.range_succ, List.filter_append, List.filter_cons, List.filter_nil]
theorem movesTo_pre (G : GW) : ∀ (k n : Nat), movesTo G n <+: movesTo G (n + k)
 | 0, n => List.prefix_refl _
 | k + 1, n => (movesTo_pre G k n).trans (by rw [show n + (k + 1) = n + k + 1 from rfl, movesTo_succ]; exact List.prefix_append _ _)
section
variable {P : Program} {N n : Nat} {r : Option Nat} {ds : List Deferred} {Q : Post} {ρ : Env} {w w0 : World} {ops : Array Oper} {B : Nat} {M : Nat → Prop} {σ σ' τ : List As}
theorem x_turn {s : Nat} {v v' : Value} {l : List Oper} (hv : ρ.get s = some v) (e : v = v') (h : RunX P N r n ds ops Q l ((s, v') :: ρ) w) : RunX P N r n ds ops Q l ρ w := fun a ha =>
 h a ⟨ha.1, ha.2.1, fun t u ht => by
  rw [Env.get_cons] at ht
  split at ht
  ·rename_i es
   subst es
   cases ht
   rw [← e]
   exact ha.2.2 _ _ hv
  ·exact ha.2.2 t u ht⟩
theorem ge_of {e : Exit} (h : RunE N e Q ρ w) : RunGE N [] e Q ρ w := fun a ha => by
 rw [show ({ a with defers := [] } : Act) = a from by rw [← ha.1]]
 exact h a ha
def As.one (k : Nat) (o : Obj) : As := ⟨fun j => j = k, fun w => w.heap[k]? = some o, fun w w' h hw => (h k rfl).trans hw⟩
theorem St_putObj {l : Nat} {o o' : Obj} (hw : St w0 B M σ w) (u : Upd σ (As.one l o) (As.one l o') σ') : St w0 B M σ' (w.putObj l o') := by
 have hb : w.heap[l]? = some o := hw.ok u.mem
 have hlt : l < w.heap.size := (Array.getElem?_eq_some_iff.1 hb).1
 refine hw.upd u ⟨rfl, rfl, rfl, by simp, fun k hk hm => World.putObj_heap_other (fun e => hm e)⟩ (World.putObj_heap_same hlt) ?_
 intro k hk
 have : k = l := hk
 subst this
 exact ⟨.inl rfl, by simpa using hlt⟩
theorem St_right (h : St w0 B M (τ ++ σ) w) : St w0 B M σ w := ⟨h.ext, h.base, Sep.right h.sep⟩
theorem St_left (h : St w0 B M (τ ++ σ) w) : St w0 B M τ w := St_right (St.perm List.perm_append_comm h)
end
theorem readyD (b : Nat) (w : World) :
  CallsV P 57 [ptr b] w fun r w' => ∃ bd, r = .func (.func 62) #[] #[ptr bd] ∧ Grow w w' [As.blk bd 82 [ptr b]] := by
 refine enterW Try.func57 rfl Try.ntmps57 rfl ?_
 have hw0 := St.start w
 refine c_seq (c_region ?_)
 refine l_box1 hw0 rfl rfl rfl (by first | rfl | assumption) (fun b0_0 w1 hw1 => ?_)
 try clear hw0
 refine l_assign rfl rfl rfl (l_nil (e_then ?_))
 refine c_keep [1] (.cons rfl .nil) ?_
 refine c_seq (c_region ?_)
 refine l_makeFunc rfl rfl (.cons rfl .nil) ?_
 refine l_assign rfl rfl rfl (l_nil (e_then ?_))
 refine c_keep [2] (.cons rfl .nil) ?_
 refine c_ret ?_
 refine e_done1 Try.results57 rfl ?_
 refine ⟨_, rfl, ?_⟩
 exact ⟨_, rfl, hw1.grows⟩
theorem ready1D (b bd l : Nat) (X : Gm) (hwf : Wf X.abs) (Ψ : List Nat → As → Prop) (Φ : List Nat → List As → Prop) (A0 : As) (hΨ0 : Ψ [] A0) (hY : ∀ (pre : List Nat) (i : Nat) (A : As) (w1 : World), Ψ pre A → pre ++ [i] <+: movesG X.abs → Sep w1.heap.size (fps ([As.blk b 66 (gC X), As.rk 73 3 X.vh (X.hs.map handV), As.ro 34 X.vr (X.hs.map (·.vd)), As.sep (restG b X), As.blk bd 82 [ptr b], A])) w1 ([As.blk b 66 (gC X), As.rk 73 3 X.vh (X.hs.map handV), As.ro 34 X.vr (X.hs.map (·.vd)), As.sep (restG b X), As.blk bd 82 [ptr b], A]) → YieldAt (FW none) 0 P l #[.agg #[.int .i64 (i : Int), .int .i64 0]] w1 fun e w' => (e = .returned (.bool true) ∧ ∃ A', Ψ (pre ++ [i]) A' ∧ Trans w1 w' ([As.blk b 66 (gC X), As.rk 73 3 X.vh (X.hs.map handV), As.ro 34 X.vr (X.hs.map (·.vd)), As.sep (restG b X), As.blk bd 82 [ptr b], A]) ([As.blk b 66 (gC X), As.rk 73 3 X.vh (X.hs.map handV), As.ro 34 X.vr (X.hs.map (·.vd)), As.sep (restG b X), As.blk bd 82 [ptr b], A'])) ∨ (e = .returned (.bool false) ∧ ∃ T, Φ (pre ++ [i]) T ∧ Trans w1 w' ([As.blk b 66 (gC X), As.rk 73 3 X.vh (X.hs.map handV), As.ro 34 X.vr (X.hs.map (·.vd)), As.sep (restG b X), As.blk bd 82 [ptr b], A]) T)) (w : World) (hS : Sep w.heap.size (fps ([As.blk b 66 (gC X), As.rk 73 3 X.vh (X.hs.map handV), As.ro 34 X.vr (X.hs.map (·.vd)), As.sep (restG b X), As.blk bd 82 [ptr b], A0])) w ([As.blk b 66 (gC X), As.rk 73 3 X.vh (X.hs.map handV), As.ro 34 X.vr (X.hs.map (·.vd)), As.sep (restG b X), As.blk bd 82 [ptr b], A0])) :
  CallsV P 62 [.func (.yield l) #[] #[], ptr bd] w fun r w' => ∃ T, ((∃ A, T = [As.blk b 66 (gC X), As.rk 73 3 X.vh (X.hs.map handV), As.ro 34 X.vr (X.hs.map (·.vd)), As.sep (restG b X), As.blk bd 82 [ptr b], A] ∧ Ψ (movesG X.abs) A) ∨ ∃ pre, pre <+: movesG X.abs ∧ Φ pre T) ∧ Trans w w' ([As.blk b 66 (gC X), As.rk 73 3 X.vh (X.hs.map handV), As.ro 34 X.vr (X.hs.map (·.vd)), As.sep (restG b X), As.blk bd 82 [ptr b], A0]) T := by
 refine enterW Try.func62 rfl Try.ntmps62 rfl ?_
 have hw0 : St w w.heap.size (fps ([As.blk b 66 (gC X), As.rk 73 3 X.vh (X.hs.map handV), As.ro 34 X.vr (X.hs.map (·.vd)), As.sep (restG b X), As.blk bd 82 [ptr b], A0])) ([As.blk b 66 (gC X), As.rk 73 3 X.vh (X.hs.map handV), As.ro 34 X.vr (X.hs.map (·.vd)), As.sep (restG b X), As.blk bd 82 [ptr b], A0]) w := St.startS hS
 have hn16 : X.hs.length ≤ 16 := by simpa [Gm.abs] using hwf.n16
 have hfr16 : X.fr ≤ 16 := hwf.fr
 refine c_seq (c_region ?_)
 refine l_load_blk hw0 mem4 rfl rfl Try.underlying82 rfl rfl rfl ?_
 refine l_nilCheck rfl rfl rfl (l_field fo59_0 rfl rfl rfl ?_)
 refine l_load_blk hw0 mem0 rfl rfl Try.underlying57 rfl rfl rfl ?_
 refine k_len rfl rfl Try.underlying57 rfl (Own.ik (handV_rows _) (hw0.ok mem1)) ?_
 refine l_turn (s := 10) (v' := .int .i64 (X.hs.length : Int)) rfl (by rw [List.length_map]) ?_
 refine l_move rfl rfl rfl (l_nil (e_then ?_))
 refine c_keep [0, 9, 10, 11] (.cons rfl (.cons rfl (.cons rfl (.cons rfl .nil)))) ?_
 refine c_block ?_
 refine c_loopk (ι := Nat × As) (fun (z0 : Nat × As) => match z0 with | ⟨i, A⟩ => X.hs.length - i) (fun (z0 : Nat × As) (w' : World) => match z0 with | ⟨i, A⟩ => St w w.heap.size (fps ([As.blk b 66 (gC X), As.rk 73 3 X.vh (X.hs.map handV), As.ro 34 X.vr (X.hs.map (·.vd)), As.sep (restG b X), As.blk bd 82 [ptr b], A0])) ([As.blk b 66 (gC X), As.rk 73 3 X.vh (X.hs.map handV), As.ro 34 X.vr (X.hs.map (·.vd)), As.sep (restG b X), As.blk bd 82 [ptr b], A]) w' ∧ i ≤ X.hs.length ∧ Ψ (movesTo X.abs i) A) (fun (z0 : Nat × As) => match z0 with | ⟨i, A⟩ => [(11, .int .i64 (i : Int))]) [0, 9, 10] (0, A0) ?_ (.cons rfl (.cons rfl (.cons rfl .nil))) ?_ ?_
 ·exact ⟨hw0, by omega, hΨ0⟩
 ·exact (.cons rfl (by first | rfl | (refine congrArg (Value.int _) ?_; omega)) .nil)
 rintro ⟨i, A⟩ w1 ⟨hw1, hi, hΨ⟩
 show RunC P _ _ _ (_ :: _) _
 refine c_seq (c_region ?_)
 refine l_lss rfl rfl rfl rfl ?_
 refine l_nil (e_then (c_seq ?_))
 first | refine c_cond rfl (fun hc0 => ?_) (fun hc0 => ?_) | refine c_condb rfl (fun hc0 => ?_) (fun hc0 => ?_)
 ·skip
  refine c_skip (e_then ?_)
  refine c_keep [0, 9, 10, 11] (.cons rfl (.cons rfl (.cons rfl (.cons rfl .nil)))) ?_
  refine c_seq (c_block (c_seq (c_region ?_)))
  obtain ⟨m, hm⟩ : ∃ m, X.hs[i]? = some m := ⟨_, List.getElem?_eq_getElem (by omega)⟩
  have hGFi : GF b X w1 := GF.of (σ := _) hw1
  have hrow : (X.hs.map handV)[i]? = some (handV m) := by rw [List.getElem?_map, hm]; rfl
  obtain ⟨Ah, ch, hvh⟩ : ∃ A c, X.vh = .slice (some A) (X.hs.map handV).length c := by
   obtain ⟨_, A, c, e, _, hs⟩ := hGFi.hh
   obtain ⟨ad, rfl⟩ := hs.some_ (by rw [(handV_rows _).len, List.length_map]; omega)
   exact ⟨ad, c, e⟩
  refine l_move rfl rfl rfl ?_
  refine k_addrx (j := i) rfl rfl Try.underlying57 tz73 (by decide) rfl rfl hGFi.hh hvh (by first | rfl | omega) (by rw [List.length_map]; omega) ?_
  refine k_load (j := i) rfl rfl Try.underlying73 rfl tz73 rfl hvh hGFi.hh hrow ?_
  refine l_alloc hw1 ta73 rfl rfl (fun b2_3 w2 hw2 => ?_)
  try clear hw1
  refine l_assign rfl rfl rfl ?_
  refine l_store_blks hw2 .head (.zero (.zero (.zero .nil))) rfl tz73 rfl rfl (by first | (simp [Value.oneCell']; done) | (intro u hu; simp only [List.mem_cons, List.not_mem_nil, or_false] at hu; rcases hu with rfl | rfl | rfl <;> first | rfl | assumption)) (fun w3 hw3 => ?_)
  try clear hw2
  refine l_nil (e_then ?_)
  refine c_keep [0, 3, 4, 9, 10, 11] (.cons rfl (.cons rfl (.cons rfl (.cons rfl (.cons rfl (.cons rfl .nil)))))) ?_
  refine c_seq (c_region (l_move rfl rfl rfl (l_nil (e_then (c_block ?_)))))
  refine c_loopk (ι := Nat × As) (fun (z0 : Nat × As) => match z0 with | ⟨c, A1⟩ => 2 - c) (fun (z0 : Nat × As) (w' : World) => match z0 with | ⟨c, A1⟩ => St w w.heap.size (fps ([As.blk b 66 (gC X), As.rk 73 3 X.vh (X.hs.map handV), As.ro 34 X.vr (X.hs.map (·.vd)), As.sep (restG b X), As.blk bd 82 [ptr b], A0])) (As.blk b2_3 73 (handV m) :: [As.blk b 66 (gC X), As.rk 73 3 X.vh (X.hs.map handV), As.ro 34 X.vr (X.hs.map (·.vd)), As.sep (restG b X), As.blk bd 82 [ptr b], A1]) w' ∧ c ≤ 2 ∧ Ψ (if c = 0 then movesTo X.abs i else movesTo X.abs (i + 1)) A1) (fun (z0 : Nat × As) => match z0 with | ⟨c, A1⟩ => [(16, .int .i64 (c : Int))]) [0, 3, 4, 9, 10, 11] (0, A) ?_ (.cons rfl (.cons rfl (.cons rfl (.cons rfl (.cons rfl (.cons rfl .nil)))))) ?_ ?_
  ·exact ⟨hw3, by omega, by rw [if_pos rfl]; exact hΨ⟩
  ·exact (.cons rfl (by first | rfl | (refine congrArg (Value.int _) ?_; omega)) .nil)
  rintro ⟨c, A1⟩ w4 ⟨hw4, hc, hΨ1⟩
  show RunC P _ _ _ (_ :: _) _
  refine c_seq (c_region ?_)
  refine l_lss rfl rfl rfl rfl ?_
  refine l_nil (e_then (c_seq ?_))
  first | refine c_cond rfl (fun hc1 => ?_) (fun hc1 => ?_) | refine c_condb rfl (fun hc1 => ?_) (fun hc1 => ?_)
  ·skip
   refine c_skip (e_then ?_)
   refine c_keep [0, 3, 4, 9, 10, 11, 16] (.cons rfl (.cons rfl (.cons rfl (.cons rfl (.cons rfl (.cons rfl (.cons rfl .nil))))))) ?_
   refine c_seq (c_block (c_seq (c_region (l_move rfl rfl rfl (l_assign rfl rfl rfl ?_)))))
   refine l_nil (e_then ?_)
   refine c_keep [0, 3, 4, 5, 9, 10, 11, 16] (.cons rfl (.cons rfl (.cons rfl (.cons rfl (.cons rfl (.cons rfl (.cons rfl (.cons rfl .nil)))))))) ?_
   refine c_seq ?_
   refine c_regionX ?_
   refine x_pre [_, _, _, _, _] rfl ?_
   refine l_field fo73_0 rfl rfl rfl ?_
   refine l_load_blk hw4 mem0 rfl rfl Try.underlying45 rfl rfl rfl ?_
   refine l_move rfl rfl rfl ?_
   refine l_callv rfl rfl rfl Try.func45 rfl rfl (.cons rfl .nil) (mayCG b i X hwf m hm c w4 (GF.of (σ := [_, _]) (St_right (τ := [_]) hw4))) ?_
   rintro _ w90 ⟨rfl, hG⟩
   have hw90 := hG _ _ _ _ hw4
   simp only [List.nil_append] at hw90
   clear hG
   refine l_move rfl rfl rfl (l_nil ?_)
   refine e_x ?_
   have hsu := movesTo_succ X.abs i
   rcases Classical.em ((c : Int) = 0 ∧ mayG X.abs i = true) with hmy | hmy
   obtain ⟨hcz, hmy⟩ := hmy
   have hcz' : c = 0 := by omega
   refine x_turn (s := 23) (v' := .bool true) rfl (by simp [hmy, hcz']) ?_
   refine x_pre [_, _, _, _] rfl ?_
   refine l_move rfl rfl rfl (l_move rfl rfl rfl (l_move rfl rfl rfl ?_))
   refine l_turn (s := 26) (v' := .int .i64 0) rfl (by rw [hcz']; rfl) ?_
   refine l_buildS rfl rfl pl47 ta47 (.one rfl rfl (by first | rfl | assumption) (.zero) (.one rfl rfl (by first | rfl | assumption) ((.succ .zero)) .nil)) ?_
   refine l_nil ?_
   refine e_x ?_
   have hpre : movesTo X.abs i ++ [i] <+: movesG X.abs := by
    have h1 := movesTo_pre X.abs (X.abs.hs.length - (i + 1)) (i + 1)
    rw [hsu, if_pos hmy, show i + 1 + (X.abs.hs.length - (i + 1)) = X.abs.hs.length by simp [Gm.abs]; omega] at h1
    exact h1
   have hw91 := St.perm (List.perm_append_comm (l₁ := [_]) (l₂ := [_, _, _, _, _, _])) hw90
   clear hw90
   rw [if_pos hcz'] at hΨ1
   refine x_yield rfl rfl rfl (.cons rfl .nil) (hY _ _ _ _ hΨ1 hpre (St.rows (τ := [As.blk b 66 (gC X), As.rk 73 3 X.vh (X.hs.map handV), As.ro 34 X.vr (X.hs.map (·.vd)), As.sep (restG b X), As.blk bd 82 [ptr b], A1]) hw91)) ?_
   rintro e w92 (⟨rfl, A2, hΨ2, hT⟩ | ⟨rfl, T, hΦ, hT⟩)
   ·skip
    refine ⟨_, rfl, ?_⟩
    refine x_pre [_, _] rfl ?_
    refine l_not rfl rfl rfl ?_
    refine l_pick_t rfl rfl rfl rfl ?_
    refine l_nil ?_
    refine e_x ?_
    refine x_nil ?_
    refine ge_of ?_
    have hw95 := St.perm (List.perm_append_comm (l₁ := [_, _, _, _, _, _]) (l₂ := [_])) (hT _ _ _ _ hw91)
    clear hw91
    rw [show movesTo X.abs i ++ [i] = movesTo X.abs (i + 1) by rw [hsu, if_pos hmy]] at hΨ2
    simp only [List.cons_append, List.nil_append] at hw95
    refine e_then ?_
    refine c_keep [0, 3, 4, 9, 10, 11, 16, 30] (.cons rfl (.cons rfl (.cons rfl (.cons rfl (.cons rfl (.cons rfl (.cons rfl (.cons rfl .nil)))))))) ?_
    refine c_cond_f rfl rfl ?_
    refine c_skip ?_
    refine e_blk ?_
    refine e_then ?_
    refine c_keep [0, 3, 4, 9, 10, 11, 16] (.cons rfl (.cons rfl (.cons rfl (.cons rfl (.cons rfl (.cons rfl (.cons rfl .nil))))))) ?_
    refine c_region ?_
    refine l_add rfl rfl rfl rfl (w_i64 (by omega)) ?_
    refine l_move rfl rfl rfl (l_nil ?_)
    refine e_againk (i := (c, A1)) (c + 1, A2) ?_ ?_ (.cons rfl (.cons rfl (.cons rfl (.cons rfl (.cons rfl (.cons rfl .nil)))))) ?_
    ·first | omega | (simp; omega)
    ·exact ⟨hw95, by omega, by rw [if_neg (by omega)]; exact hΨ2⟩
    ·exact (.cons rfl (by first | rfl | (refine congrArg (Value.int _) ?_; omega)) .nil)
   ·skip
    refine ⟨_, rfl, ?_⟩
    refine x_pre [_, _] rfl ?_
    refine l_not rfl rfl rfl ?_
    refine l_pick_t rfl rfl rfl rfl ?_
    refine l_nil ?_
    refine e_x ?_
    refine x_nil ?_
    refine ge_of ?_
    have hw95 := St_left (hT _ _ _ _ hw91)
    clear hw91
    refine e_then ?_
    refine c_keep [0, 3, 4, 9, 10, 11, 16, 30] (.cons rfl (.cons rfl (.cons rfl (.cons rfl (.cons rfl (.cons rfl (.cons rfl (.cons rfl .nil)))))))) ?_
    refine c_cond_t rfl rfl ?_
    refine c_ret ?_
    refine e_blk_ret ?_
    refine e_then_ret ?_
    refine e_then_ret ?_
    refine e_blk_ret ?_
    refine e_blk_ret ?_
    refine e_then_ret ?_
    refine e_then_ret ?_
    refine e_blk_ret ?_
    try dsimp only
    refine e_done0r Try.results62 ?_
    refine ⟨_, rfl, ?_⟩
    exact ⟨T, .inr ⟨_, hpre, hΦ⟩, St.transS hw95⟩
   ·skip
    refine x_turn (s := 23) (v' := .bool false) rfl (by rw [decide_eq_false hmy]) ?_
    refine x_pre [_, _, _, _, _, _, _] rfl ?_
    refine l_spurn rfl rfl ?_
    refine l_spurn rfl rfl ?_
    refine l_spurn rfl rfl ?_
    refine l_spurn rfl rfl ?_
    refine l_spurn rfl rfl ?_
    refine l_spurn rfl rfl ?_
    refine l_pick_f rfl rfl rfl rfl ?_
    refine l_nil ?_
    refine e_x ?_
    refine x_nil ?_
    refine ge_of ?_
    have hΨ2 : Ψ (movesTo X.abs (i + 1)) A1 := by
     by_cases hc0' : c = 0
     ·rw [if_pos hc0'] at hΨ1
      rw [hsu, if_neg (fun h => hmy ⟨by omega, h⟩), List.append_nil]
      exact hΨ1
     ·rw [if_neg hc0'] at hΨ1
      exact hΨ1
    obtain ⟨A2, hA2⟩ : ∃ A2, A1 = A2 := ⟨A1, rfl⟩
    have hw95 := hw90
    rw [hA2] at hw95 hΨ2
    clear hw90
    refine e_then ?_
    refine c_keep [0, 3, 4, 9, 10, 11, 16, 30] (.cons rfl (.cons rfl (.cons rfl (.cons rfl (.cons rfl (.cons rfl (.cons rfl (.cons rfl .nil)))))))) ?_
    refine c_cond_f rfl rfl ?_
    refine c_skip ?_
    refine e_blk ?_
    refine e_then ?_
    refine c_keep [0, 3, 4, 9, 10, 11, 16] (.cons rfl (.cons rfl (.cons rfl (.cons rfl (.cons rfl (.cons rfl (.cons rfl .nil))))))) ?_
    refine c_region ?_
    refine l_add rfl rfl rfl rfl (w_i64 (by omega)) ?_
    refine l_move rfl rfl rfl (l_nil ?_)
    refine e_againk (i := (c, A1)) (c + 1, A2) ?_ ?_ (.cons rfl (.cons rfl (.cons rfl (.cons rfl (.cons rfl (.cons rfl .nil)))))) ?_
    ·first | omega | (simp; omega)
    ·exact ⟨hw95, by omega, by rw [if_neg (by omega)]; exact hΨ2⟩
    ·exact (.cons rfl (by first | rfl | (refine congrArg (Value.int _) ?_; omega)) .nil)
  ·skip
   refine c_exit ?_
   refine e_then_exit ?_
   refine e_then_exit ?_
   refine e_blk_exit ?_
   refine e_blk ?_
   refine e_then ?_
   refine c_keep [0, 9, 10, 11] (.cons rfl (.cons rfl (.cons rfl (.cons rfl .nil)))) ?_
   refine c_region ?_
   refine l_add rfl rfl rfl rfl (w_i64 (by omega)) ?_
   refine l_move rfl rfl rfl (l_nil ?_)
   have hw101 := St.del .head hw4
   try clear hw4
   refine e_againk (i := (i, A)) (i + 1, A1) ?_ ?_ (.cons rfl (.cons rfl (.cons rfl .nil))) ?_
   ·first | omega | (simp; omega)
   ·exact ⟨hw101, by omega, by rw [if_neg (by omega)] at hΨ1; exact hΨ1⟩
   ·exact (.cons rfl (by first | rfl | (refine congrArg (Value.int _) ?_; omega)) .nil)
 ·skip
  refine c_exit ?_
  refine e_then_exit ?_
  refine e_then_exit ?_
  refine e_blk_exit ?_
  try dsimp only
  refine e_done0 Try.results62 ?_
  refine ⟨_, rfl, ?_⟩
  obtain rfl : i = X.hs.length := by omega
  refine ⟨_, .inl ⟨A, rfl, ?_⟩, St.transS hw1⟩
  unfold movesG
  rw [show X.abs.hs.length = X.hs.length by simp [Gm.abs]]
  exact hΨ
section
variable {P : Program} {N n : Nat} {Q : Post} {ρ : Env} {w : World}
theorem enterM {f : FuncId} {fn : Func} {c : Code} {args : List Value} {R : Value → World → Prop} (hf : P.funcs[f]? = some fn) (hb : fn.body = some c) (hn : fn.ntmps = N)
  (hN : Nat.ble args.length N = true) (n : RunG P N none 0 [] c (bodyPostM (FW none) 0 P fn (fun e w' => ∃ v, e = .returned v ∧ R v w')) (args0 0 args) w) : CallsV P f args w R := by
 subst hn
 have hN' : args.length ≤ fn.ntmps := by simpa using hN
 refine (callsIn_wide (n := 0)).1 (callsIn_of_wp_marks hf hb trivial (n { tmps := args.toArray ++ Array.replicate (fn.ntmps - args.toArray.size) undef, defers := [] } ⟨rfl, by simp; omega, fun s v h => ?_⟩))
 obtain ⟨_, h2⟩ := args0_get _ _ _ _ h
 simp only [Nat.sub_zero] at h2
 have hlt : s < args.length := (List.getElem?_eq_some_iff.1 h2).1
 rw [Array.getElem?_append_left (by simpa using hlt)]
 simpa using h2
theorem g_rangeF {g : Operand} {ps : Array Tmp} {assign body : Code} {gf : Nat} {lb : Array Value} (hg : evalE ρ g = some (.func (.func gf) #[] lb)) (eg : ∀ args w, (callFunc gf args).run P w = .ok (.enter gf args) w)
  (h : ∀ (fn : FuncId) (a : Act), Fits N ρ a → ∀ rec : LoopState → Option Code → Loop, (rec = fun st pe => { state := st, pending := pe, fn, tmps := a.tmps, params := ps, assign, body, defers := w.heap.size }) →
   Calls P gf (#[.func (.yield (w.heap.size + 1)) #[] #[]] ++ lb) ((w.alloc (.deferred (some []))).alloc (.loop (rec .ready none))) fun e w2 => ∃ v, e = .returned v ∧ rangePost (FW none) n P (w.heap.size + 1) Q { a with defers := [{ target := .collected w.heap.size, args := #[] }] } (.returned v) w2) :
  RunG P N none n [] (.rangeFunc g ps assign body) Q ρ w := fun a ha => by
 refine wpIn_rangeFunc fun fn _ => ?_
 have hc := h fn a ha _ rfl
 refine ⟨w.heap.size + 1, [{ target := .collected w.heap.size, args := #[] }], (w.alloc (.deferred (some []))).alloc (.loop { state := .ready, pending := none, fn, tmps := a.tmps, params := ps, assign, body, defers := w.heap.size }),
  { target := .fn (.func gf) lb, args := #[.func (.yield (w.heap.size + 1)) #[] #[]] }, (w.alloc (.deferred (some []))).alloc (.loop { state := .ready, pending := none, fn, tmps := a.tmps, params := ps, assign, body, defers := w.heap.size }), gf,
  #[.func (.yield (w.heap.size + 1)) #[] #[]] ++ lb, (w.alloc (.deferred (some []))).alloc (.loop { state := .ready, pending := none, fn, tmps := a.tmps, params := ps, assign, body, defers := w.heap.size }), run_enterLoop_outer _ _ _ _ _, ?_, fun _ _ => trivial, ?_, fun e => by simp [Fence.wide] at e, ?_⟩
 ·have : ({ a with defers := [] } : Act).eval g = .func (.func gf) #[] lb := ha.eval hg
  simp only [resolve, this]
  simp [go_sem]
 ·simp [invoke, go_sem, eg]
 ·refine callsIn_FW (Calls.mono hc fun e w2 he => ?_)
  obtain ⟨v, rfl, h⟩ := he
  exact h
theorem yield_of {l p : Nat} {rec : Loop} {v : Value} {R : Ending → World → Prop} (hL : w.heap[l]? = some (.loop rec)) (hp : rec.params = #[p]) (hfit : Fits N ρ { tmps := rec.tmps.setIfInBounds p v, defers := [] })
  (h : RunG P N (some l) n [] rec.assign (Exit.then (fun a₁ w₁ => ∃ w₂, (Instr.beginRound l).run P w₁ = .ok () w₂ ∧ rec.body.wpIn (FW (some l)) n P (roundPost P l R) a₁ w₂) (fun _ _ _ => False)) ρ w) : YieldAt (FW none) n P l #[v] w R := by
 refine ⟨rec.fn, rec.tmps.setIfInBounds p v, rec.assign, rec.body, by rw [run_yield hL (by rw [hp]; rfl), hp]; simp, roundIn_of_wpIn (F := FW none) trivial ?_⟩
 exact h _ hfit
theorem g_begin {l : Nat} {rec : Loop} {body : Code} {Q2 : Post} (hL : w.heap[l]? = some (.loop rec)) (hst : rec.state = .ready) (h : RunG P N (some l) n [] body Q ρ (w.putObj l (.loop { rec with state := .busy }))) :
  RunGE N [] .normal (Exit.then (fun a₁ w₁ => ∃ w₂, (Instr.beginRound l).run P w₁ = .ok () w₂ ∧ body.wpIn (FW (some l)) n P Q a₁ w₂) Q2) ρ w := fun a ha => ⟨_, run_beginRound hL hst, h a ha⟩
theorem g_endn {l : Nat} {rec : Loop} {R : Ending → World → Prop} (hL : w.heap[l]? = some (.loop rec)) (h : R (.returned (.bool true)) (w.putObj l (.loop { rec with state := .ready, pending := none }))) : RunGE N [] .normal (roundPost P l R) ρ w := fun a ha => ⟨_, _, run_endRound none hL, h⟩
theorem g_endr {l : Nat} {rec : Loop} {R : Ending → World → Prop} (hL : w.heap[l]? = some (.loop rec)) (h : R (.returned (.bool false)) (w.putObj l (.loop { rec with state := .done, pending := some .ret }))) : RunGE N [] .ret (roundPost P l R) ρ w := fun a ha => ⟨_, _, run_endRound (some .ret) hL, h⟩
theorem g_doneM {fn : Func} {t D : Nat} {v : Value} {R : Ending → World → Prop} (hr : fn.results = #[.tmp t]) (hv : ρ.get t = some v) (hD : w.heap[D]? = some (.deferred (some []))) (h : R (.returned v) (w.putObj D (.deferred none))) :
  RunGE N [{ target := .collected D, args := #[] }] .ret (bodyPostM (FW none) n P fn R) ρ w := fun a ha => by
 refine ⟨by simp, .inl ⟨_, _, rfl, run_takeDeferred hD, ?_⟩⟩
 exact ⟨v, by rw [results_tmp hr]; simp [Array.getD_eq_getD_getElem?, ha.2.2 t v hv], h⟩
end
theorem enters_of {P : Program} {f : FuncId} {fn : Func} {c : Code} (hf : P.funcs[f]? = some fn) (hname : (fn.name == "runtime.NumGoroutine") = false) (hb : fn.body = some c) : ∀ args w, (callFunc f args).run P w = .ok (.enter f args) w := by
 intro args w
 have h1 : fn.name ≠ "runtime.NumGoroutine" := by simpa using hname
 simp [callFunc, hf, h1, hb]
def movesR (l : List Nat) : List (List Value) := l.map fun i : Nat => [.int .i64 (i : Int), .int .i64 0]
theorem movesR_rows (l : List Nat) : Rows_ 2 (movesR l) := fun r hr => by
 obtain ⟨i, _, rfl⟩ := List.mem_map.1 hr
 exact ⟨rfl, by simp [Value.oneCell']⟩
theorem movesG_len (G : GW) : (movesG G).length ≤ G.hs.length := by
 unfold movesG movesTo
 exact Nat.le_trans (List.length_filter_le _ _) (by simp)
theorem movesR_snoc (l : List Nat) (i : Nat) : movesR (l ++ [i]) = movesR l ++ [[.int .i64 (i : Int), .int .i64 0]] := by simp [movesR]
theorem movesD (b : Nat) (X : Gm) (hwf : Wf X.abs) (w : World) (hS : Sep w.heap.size (fps (gW b X)) w (gW b X)) : CallsV P 36 [ptr b] w fun r w' => Trans w w' (gW b X) (gW b X ++ [As.rk 47 2 r (movesR (movesG X.abs))]) := by
 refine enterM Try.func36 rfl Try.ntmps36 rfl ?_
 have hw0 : St w w.heap.size (fps (gW b X)) (gW b X) w := St.startS hS
 have hn16 : X.abs.hs.length ≤ 16 := hwf.n16
 have hml := movesG_len X.abs
 refine g_seq (g_plain rfl ?_)
 refine l_assign rfl rfl rfl (l_nil ?_)
 refine e_x (x_nil (g_then ?_))
 refine g_seq (g_plain rfl ?_)
 refine l_alloc hw0 ta38 rfl rfl (fun ob w1 hw1 => ?_)
 refine l_nil ?_
 refine e_x (x_nil (g_then ?_))
 refine g_seq (g_seq (g_plain rfl ?_))
 refine l_move rfl rfl rfl ?_
 refine l_call rfl rfl Try.func57 rfl rfl (.cons rfl .nil) (readyD b w1) ?_
 rintro _ w2 ⟨bd, rfl, hG⟩
 have hw2 := hG _ _ _ _ hw1
 clear hG hw1
 refine l_nil ?_
 refine e_x (x_nil (g_then ?_))
 refine g_block (g_rangeF rfl (enters_of Try.func62 (by kernel_rfl) rfl) fun fn a ha rec hrec => ?_)
 obtain ⟨D, hD⟩ : ∃ D, w2.heap.size = D := ⟨_, rfl⟩
 have h3 := hw2.new (.deferred (some [])) (As.one D (.deferred (some []))) (by rw [← hD]; exact World.alloc_heap_new w2 _) (fun k hk => by rw [hD]; exact hk)
 have hsz : (w2.alloc (.deferred (some []))).heap.size = D + 1 := by rw [World.size_alloc, hD]
 have h4 := h3.new (.loop (rec .ready none)) (As.one (D + 1) (.loop (rec .ready none))) (by rw [← hsz]; exact World.alloc_heap_new _ _) (fun k hk => by rw [hsz]; exact hk)
 rw [hD]
 generalize (w2.alloc (.deferred (some []))).alloc (.loop (rec .ready none)) = w3 at h4 ⊢
 have h5 := h4.nilk 47 2
 clear h4 h3 hw2
 have hrs : ∀ st pe st', { rec st pe with state := st' } = rec st' pe := by subst hrec; intros; rfl
 have hrp : ∀ st pe st' pe', { rec st pe with state := st', pending := pe' } = rec st' pe' := by subst hrec; intros; rfl
 have hpar : ∀ st pe, (rec st pe).params = #[7] := by subst hrec; intros; rfl
 have htm : ∀ st pe, (rec st pe).tmps = a.tmps := by subst hrec; intros; rfl
 have hst : ∀ st pe, (rec st pe).state = st := by subst hrec; intros; rfl
 have hpd : ∀ st pe, (rec st pe).pending = pe := by subst hrec; intros; rfl
 obtain ⟨casg, hra⟩ : ∃ c, c = (rec .ready none).assign := ⟨_, rfl⟩
 obtain ⟨cbod, hrb⟩ : ∃ c, c = (rec .ready none).body := ⟨_, rfl⟩
 have hra2 := hra
 have hrb2 := hrb
 rw [hrec] at hra2 hrb2
 dsimp only at hra2 hrb2
 clear hrec
 have hz1 := sep_nil h5
 try clear h5
 have hz2 := St.frontL (l := [_]) hz1
 simp only [List.cons_append, List.nil_append] at hz2
 try clear hz1
 have hz3 := St.frontL (l := [_, _, _, _, _]) hz2
 simp only [List.cons_append, List.nil_append] at hz3
 try clear hz2
 have hz4 := St.frontL (l := [_, _, _, _]) hz3
 simp only [List.cons_append, List.nil_append] at hz4
 try clear hz3
 have hz5 := St.frontL (l := [_, _, _, _]) hz4
 simp only [List.cons_append, List.nil_append] at hz5
 try clear hz4
 have hz6 := sep_put (l := [_, _, _, _]) (τ' := []) (List.Perm.refl _) hz5
 simp only [List.cons_append, List.nil_append] at hz6
 try clear hz5
 have hz7 := St.frontL (l := [_]) hz6
 simp only [List.cons_append, List.nil_append] at hz7
 try clear hz6
 have hz8 := St.frontL (l := [_, _, _, _, _]) hz7
 simp only [List.cons_append, List.nil_append] at hz8
 try clear hz7
 have hz9 := St.frontL (l := [_, _, _, _, _]) hz8
 simp only [List.cons_append, List.nil_append] at hz9
 try clear hz8
 have hz10 := St.frontL (l := [_, _, _, _, _]) hz9
 simp only [List.cons_append, List.nil_append] at hz10
 try clear hz9
 have hz11 := St.frontL (l := [_, _, _, _, _]) hz10
 simp only [List.cons_append, List.nil_append] at hz11
 try clear hz10
 refine Calls.mono (ready1D b bd (D + 1) X hwf (fun pre A => ∃ v, A = As.sep [As.one (D + 1) (.loop (rec .ready none)), As.one D (.deferred (some [])), As.blk ob 38 [v], As.rk 47 2 v (movesR pre)]) (fun _ _ => False) _ ⟨_, rfl⟩ ?_ w3 (St.rows (τ := [As.blk b 66 (gC X), As.rk 73 3 X.vh (X.hs.map handV), As.ro 34 X.vr (X.hs.map (·.vd)), As.sep (restG b X), As.blk bd 82 [ptr b], As.sep [As.one (D + 1) (.loop (rec .ready none)), As.one D (.deferred (some [])), As.blk ob 38 [(.slice none 0 0)], As.rk 47 2 (.slice none 0 0) (movesR [])]]) (σ := []) hz11)) fun e w4 he => ?_
 ·rintro pre i A w1 ⟨v, rfl⟩ hpre hS1
  have hw1 := St.startS hS1
  have hpl : pre.length ≤ 16 := by
   have := hpre.length_le
   simp at this
   omega
  have hz21 := St.frontL (l := [_, _, _, _, _]) hw1
  simp only [List.cons_append, List.nil_append] at hz21
  try clear hw1
  have hz22 := sep_take (l := [_, _, _, _]) (τ' := []) (List.Perm.refl _) hz21
  simp only [List.cons_append, List.nil_append] at hz22
  try clear hz21
  have hL : w1.heap[D + 1]? = some (.loop (rec .ready none)) := hz22.ok (.head _)
  refine yield_of (p := 7) hL (hpar _ _) (by rw [htm]; exact ⟨rfl, (ha.put 7 rfl _).2.1, (ha.put 7 rfl _).2.2⟩) ?_
  rw [← hra, ← hrb, hra2]
  refine g_plain rfl ?_
  refine l_alloc hz22 ta47 rfl rfl (fun mb wz23 hz23 => ?_)
  try clear hz22
  refine l_store_blks hz23 .head (.zero (.zero .nil)) rfl tz47 rfl rfl (by intro u hu; simp only [List.mem_cons, List.not_mem_nil, or_false] at hu; rcases hu with rfl | rfl <;> rfl) (fun wz24 hz24 => ?_)
  try clear hz23
  refine l_nil ?_
  refine e_x (x_nil ?_)
  refine g_begin (rec := rec .ready none) (hz24.ok mem1) (hst _ _) ?_
  rw [hrs, hrb2]
  have hz25 := St_putObj (o' := .loop (rec .busy none)) hz24 (.tail .head)
  try clear hz24
  refine g_block (g_plain rfl ?_)
  refine l_load_blk hz25 mem3 rfl rfl Try.underlying38 rfl rfl rfl ?_
  refine l_load_agg hz25 mem0 rfl rfl Try.underlying47 rfl tz47 rfl (.take (.take .nil)) ?_
  refine l_lit2 hz25 rfl rfl Try.underlying38 ti47 rfl rfl rfl (fun lit wz26 hz26 => ?_)
  try clear hz25
  have hz27 := St.frontL (l := [_, _, _, _, _]) hz26
  simp only [List.cons_append, List.nil_append] at hz27
  try clear hz26
  refine k_append1 (r := [.int .i64 (i : Int), .int .i64 0]) hz27 rfl rfl Try.underlying38 ti47 rfl rfl rfl rfl (blk_sl (hz27.ok mem1)) (by simp [Value.oneCell']) (by simp [movesR]; omega) (by simp [movesR]; omega) (fun v2 wz28 hz28 => ?_)
  try clear hz27
  have hv2 := own_one (hz28.ok mem0)
  have hz29 := St.frontL (l := [_, _, _, _, _]) hz28
  simp only [List.cons_append, List.nil_append] at hz29
  try clear hz28
  refine l_store_blk hz29 .head .zero rfl tz38 rfl rfl hv2 (fun wz30 hz30 => ?_)
  try clear hz29
  refine l_nil ?_
  refine e_x (x_nil ?_)
  refine g_blk (g_endn (rec := rec .busy none) (hz30.ok mem4) ?_)
  rw [hrp]
  have hz31 := St_putObj (o' := .loop (rec .ready none)) hz30 (.tail (.tail (.tail (.tail .head))))
  try clear hz30
  have hz32 := St.frontL (l := [_, _, _, _, _, _]) hz31
  simp only [List.cons_append, List.nil_append] at hz32
  try clear hz31
  have hz33 := St.frontL (l := [_, _]) hz32
  simp only [List.cons_append, List.nil_append] at hz33
  try clear hz32
  have hz34 := St.frontL (l := [_, _]) hz33
  simp only [List.cons_append, List.nil_append] at hz34
  try clear hz33
  have hz35 := St.frontL (l := [_, _, _, _, _, _]) hz34
  simp only [List.cons_append, List.nil_append] at hz35
  try clear hz34
  have hz36 := St.frontL (l := [_, _, _, _, _, _]) hz35
  simp only [List.cons_append, List.nil_append] at hz36
  try clear hz35
  have hz37 := sep_put (l := [_, _, _, _]) (τ' := []) (List.Perm.refl _) hz36
  simp only [List.cons_append, List.nil_append] at hz37
  try clear hz36
  have hz38 := St.frontL (l := [_, _, _, _, _, _, _]) hz37
  simp only [List.cons_append, List.nil_append] at hz38
  try clear hz37
  have hz39 := St.frontL (l := [_, _, _, _, _, _, _]) hz38
  simp only [List.cons_append, List.nil_append] at hz39
  try clear hz38
  have hz40 := St.frontL (l := [_, _, _, _, _, _, _]) hz39
  simp only [List.cons_append, List.nil_append] at hz40
  try clear hz39
  have hz41 := St.frontL (l := [_, _, _, _, _, _, _]) hz40
  simp only [List.cons_append, List.nil_append] at hz41
  try clear hz40
  have hz42 := St.frontL (l := [_, _, _, _, _, _, _]) hz41
  simp only [List.cons_append, List.nil_append] at hz42
  try clear hz41
  refine .inl ⟨rfl, _, ⟨v2, rfl⟩, St.transS ?_⟩
  have hze := St_left (τ := [_, _, _, _, _, _]) (σ := [_, _]) hz42
  rw [movesR_snoc]
  exact hze
 ·obtain ⟨r, rfl, T, hT, hTr⟩ := he
  rcases hT with ⟨A, rfl, v, rfl⟩ | ⟨_, _, hf⟩
  ·have h9 := hTr _ _ _ [] (by rw [List.append_nil]; exact hz11)
   simp only [List.append_nil] at h9
   refine ⟨_, rfl, ?_⟩
   have hz61 := St.frontL (l := [_, _, _, _, _]) h9
   simp only [List.cons_append, List.nil_append] at hz61
   try clear h9
   have hz62 := sep_take (l := [_, _, _, _]) (τ' := []) (List.Perm.refl _) hz61
   simp only [List.cons_append, List.nil_append] at hz62
   try clear hz61
   refine ⟨none, w4.putObj (D + 1) (.loop (rec .exhausted none)), by rw [run_endLoop (hz62.ok (.head _)) (by rw [hst]; decide), hrs, hpd], ?_⟩
   have hz63 := St_putObj (o' := .loop (rec .exhausted none)) hz62 .head
   try clear hz62
   refine (g_blk (g_then ?_) : RunGE _ [{ target := .collected D, args := #[] }] .normal _ _ _) a ha
   refine g_seq (g_plain rfl ?_)
   refine l_load_blk hz63 mem2 rfl rfl Try.underlying38 rfl rfl rfl ?_
   refine l_assign rfl rfl rfl (l_nil ?_)
   refine e_x (x_nil (g_then ?_))
   refine g_ret ?_
   refine g_doneM (D := D) Try.results36 rfl (hz63.ok mem1) ?_
   have hz64 := St_putObj (o' := .deferred none) hz63 (.tail .head)
   try clear hz63
   have hz65 := St.frontL (l := [_, _, _]) hz64
   simp only [List.cons_append, List.nil_append] at hz65
   try clear hz64
   have hz66 := St.frontL (l := [_, _, _, _, _, _, _, _]) hz65
   simp only [List.cons_append, List.nil_append] at hz66
   try clear hz65
   have hz67 := St.frontL (l := [_, _, _, _, _, _, _, _]) hz66
   simp only [List.cons_append, List.nil_append] at hz67
   try clear hz66
   have hz68 := St.frontL (l := [_, _, _, _, _, _, _, _]) hz67
   simp only [List.cons_append, List.nil_append] at hz68
   try clear hz67
   have hz69 := St.frontL (l := [_, _, _, _, _, _, _, _]) hz68
   simp only [List.cons_append, List.nil_append] at hz69
   try clear hz68
   exact ⟨_, rfl, St.transS (St_left (τ := [_, _, _, _, _]) (σ := [_, _, _, _, _]) hz69)⟩
  ·exact hf.elim
theorem g_doneC {P : Program} {N n : Nat} {ρ : Env} {w : World} {fn : Func} {r : ResultVar} {D : Nat} {v : Value} {R : Ending → World → Prop} (hr : fn.results = #[r]) (hD : w.heap[D]? = some (.deferred (some []))) (h : ResV P (w.putObj D (.deferred none)) ρ [r] [v]) (hR : R (.returned v) (w.putObj D (.deferred none))) :
  RunGE N [{ target := .collected D, args := #[] }] .ret (bodyPostM (FW none) n P fn R) ρ w := fun a ha => by
 refine ⟨by simp, .inl ⟨_, _, rfl, run_takeDeferred hD, ?_⟩⟩
 have h1 := h.run1 ha hr
 exact ⟨v, h1, hR⟩
def afterDo (G : GW) (k : Nat) : GW := match (movesG G)[k]? with
 | some i => stepG G i
 | none => G
theorem moves_mem {G : GW} {i : Nat} (h : i ∈ movesG G) : i < G.hs.length ∧ mayG G i = true := by
 obtain ⟨h1, h2⟩ := List.mem_filter.1 h
 exact ⟨List.mem_range.1 h1, h2⟩
theorem doD (b : Nat) (X : Gm) (hwf : Wf X.abs) (k : Int) (hk : 0 ≤ k ∧ k ≤ 9223372036854775807) (w : World) (hS : Sep w.heap.size (fps (gW b X)) w (gW b X)) : CallsV P 42 [ptr b, .int .i64 k] w fun r w' => ∃ Y : Gm, r = .bool ((movesG X.abs)[k.toNat]?).isSome ∧ Y.abs = afterDo X.abs k.toNat ∧ Trans w w' (gW b X) (gW b Y) := by
 refine enterM Try.func42 rfl Try.ntmps42 rfl ?_
 have hw0 : St w w.heap.size (fps (gW b X)) (gW b X) w := St.startS hS
 have hn16 : X.abs.hs.length ≤ 16 := hwf.n16
 have hml := movesG_len X.abs
 refine g_seq (g_plain rfl ?_)
 refine l_box1 hw0 rfl rfl rfl rfl (fun db w1 hw1 => ?_)
 refine l_box1 hw1 rfl rfl rfl rfl (fun kb w2 hw2 => ?_)
 refine l_alloc hw2 ta4 rfl rfl (fun rb w3 hw3 => ?_)
 refine l_nil ?_
 refine e_x (x_nil (g_then ?_))
 refine g_seq (g_seq (g_plain rfl ?_))
 refine l_load_blk hw3 mem2 rfl rfl Try.underlying82 rfl rfl rfl ?_
 refine l_call rfl rfl Try.func57 rfl rfl (.cons rfl .nil) (readyD b w3) ?_
 rintro _ w4 ⟨bd, rfl, hG⟩
 have hw4 := hG _ _ _ _ hw3
 clear hG hw1 hw2 hw3
 refine l_nil ?_
 refine e_x (x_nil (g_then ?_))
 refine g_block (g_rangeF rfl (enters_of Try.func62 (by kernel_rfl) rfl) fun fn a ha rec hrec => ?_)
 obtain ⟨D, hD⟩ : ∃ D, w4.heap.size = D := ⟨_, rfl⟩
 have h3 := hw4.new (.deferred (some [])) (As.one D (.deferred (some []))) (by rw [← hD]; exact World.alloc_heap_new w4 _) (fun k hk => by rw [hD]; exact hk)
 have hsz : (w4.alloc (.deferred (some []))).heap.size = D + 1 := by rw [World.size_alloc, hD]
 have h4 := h3.new (.loop (rec .ready none)) (As.one (D + 1) (.loop (rec .ready none))) (by rw [← hsz]; exact World.alloc_heap_new _ _) (fun k hk => by rw [hsz]; exact hk)
 rw [hD]
 generalize (w4.alloc (.deferred (some []))).alloc (.loop (rec .ready none)) = w5 at h4 ⊢
 clear h3 hw4
 have hrs : ∀ st pe st', { rec st pe with state := st' } = rec st' pe := by subst hrec; intros; rfl
 have hrp : ∀ st pe st' pe', { rec st pe with state := st', pending := pe' } = rec st' pe' := by subst hrec; intros; rfl
 have hpar : ∀ st pe, (rec st pe).params = #[8] := by subst hrec; intros; rfl
 have htm : ∀ st pe, (rec st pe).tmps = a.tmps := by subst hrec; intros; rfl
 have hst : ∀ st pe, (rec st pe).state = st := by subst hrec; intros; rfl
 have hpd : ∀ st pe, (rec st pe).pending = pe := by subst hrec; intros; rfl
 obtain ⟨casg, hra⟩ : ∃ c, c = (rec .ready none).assign := ⟨_, rfl⟩
 obtain ⟨cbod, hrb⟩ : ∃ c, c = (rec .ready none).body := ⟨_, rfl⟩
 have hra2 := hra
 have hrb2 := hrb
 rw [hrec] at hra2 hrb2
 dsimp only at hra2 hrb2
 clear hrec
 have hz1 := sep_nil h4
 try clear h4
 have hz2 := St.frontL (l := [_, _, _, _, _, _]) hz1
 simp only [List.cons_append, List.nil_append] at hz2
 try clear hz1
 have hz3 := St.frontL (l := [_, _, _, _, _]) hz2
 simp only [List.cons_append, List.nil_append] at hz3
 try clear hz2
 have hz4 := St.frontL (l := [_, _, _, _, _, _]) hz3
 simp only [List.cons_append, List.nil_append] at hz4
 try clear hz3
 have hz5 := St.frontL (l := [_, _, _, _, _]) hz4
 simp only [List.cons_append, List.nil_append] at hz5
 try clear hz4
 have hz6 := St.frontL (l := [_, _, _, _, _]) hz5
 simp only [List.cons_append, List.nil_append] at hz6
 try clear hz5
 have hz7 := sep_put (l := [_, _, _, _, _]) (τ' := []) (List.Perm.refl _) hz6
 simp only [List.cons_append, List.nil_append] at hz7
 try clear hz6
 have hz8 := St.frontL (l := [_]) hz7
 simp only [List.cons_append, List.nil_append] at hz8
 try clear hz7
 have hz9 := St.frontL (l := [_, _, _, _, _]) hz8
 simp only [List.cons_append, List.nil_append] at hz9
 try clear hz8
 have hz10 := St.frontL (l := [_, _, _, _, _]) hz9
 simp only [List.cons_append, List.nil_append] at hz10
 try clear hz9
 have hz11 := St.frontL (l := [_, _, _, _, _]) hz10
 simp only [List.cons_append, List.nil_append] at hz11
 try clear hz10
 have hz12 := St.frontL (l := [_, _, _, _, _]) hz11
 simp only [List.cons_append, List.nil_append] at hz12
 try clear hz11
 refine Calls.mono (ready1D b bd (D + 1) X hwf (fun pre A => A = As.sep [As.one (D + 1) (.loop (rec .ready none)), As.one D (.deferred (some [])), As.blk kb 3 [.int .i64 (k - (pre.length : Int))], As.blk rb 4 [.bool false], As.blk db 82 [ptr b]] ∧ (pre.length : Int) ≤ k) (fun pre T => ∃ (Y : Gm) (pre0 : List Nat) (i : Nat), pre = pre0 ++ [i] ∧ (pre0.length : Int) = k ∧ Y.abs = stepG X.abs i ∧ T = gW b Y ++ [As.blk bd 82 [ptr b], As.sep [As.one (D + 1) (.loop (rec .done (some .ret))), As.one D (.deferred (some [])), As.blk kb 3 [.int .i64 (0)], As.blk rb 4 [.bool true], As.blk db 82 [ptr b]]]) _ ⟨rfl, by simpa using hk.1⟩ ?_ w5 (St.rows (τ := [As.blk b 66 (gC X), As.rk 73 3 X.vh (X.hs.map handV), As.ro 34 X.vr (X.hs.map (·.vd)), As.sep (restG b X), As.blk bd 82 [ptr b], As.sep [As.one (D + 1) (.loop (rec .ready none)), As.one D (.deferred (some [])), As.blk kb 3 [.int .i64 (k - (([] : List Nat).length : Int))], As.blk rb 4 [.bool false], As.blk db 82 [ptr b]]]) (σ := []) (hz12.cast (by simp)))) fun e w4 he => ?_
 ·rintro pre i A w1 ⟨rfl, hpk⟩ hpre hS1
  have hw1 := St.startS hS1
  obtain ⟨hi, hmay⟩ := moves_mem (hpre.subset (List.mem_append_right _ (.head _)))
  have hz21 := St.frontL (l := [_, _, _, _, _]) hw1
  simp only [List.cons_append, List.nil_append] at hz21
  try clear hw1
  have hz22 := sep_take (l := [_, _, _, _, _]) (τ' := []) (List.Perm.refl _) hz21
  simp only [List.cons_append, List.nil_append] at hz22
  try clear hz21
  have hL : w1.heap[D + 1]? = some (.loop (rec .ready none)) := hz22.ok (.head _)
  refine yield_of (p := 8) hL (hpar _ _) (by rw [htm]; exact ⟨rfl, (ha.put 8 rfl _).2.1, (ha.put 8 rfl _).2.2⟩) ?_
  rw [← hra, ← hrb, hra2]
  refine g_plain rfl ?_
  refine l_alloc hz22 ta47 rfl rfl (fun mb wz23 hz23 => ?_)
  try clear hz22
  refine l_store_blks hz23 .head (.zero (.zero .nil)) rfl tz47 rfl rfl (by intro u hu; simp only [List.mem_cons, List.not_mem_nil, or_false] at hu; rcases hu with rfl | rfl <;> rfl) (fun wz24 hz24 => ?_)
  try clear hz23
  refine l_nil ?_
  refine e_x (x_nil ?_)
  refine g_begin (rec := rec .ready none) (hz24.ok mem1) (hst _ _) ?_
  rw [hrs, hrb2]
  have hz25 := St_putObj (o' := .loop (rec .busy none)) hz24 (.tail .head)
  try clear hz24
  refine g_block (g_seq (g_seq (g_plain rfl ?_)))
  refine l_load_blk hz25 mem3 rfl rfl Try.underlying3 rfl rfl rfl ?_
  refine l_eql rfl rfl rfl rfl ?_
  refine l_nil ?_
  refine e_x (x_nil (g_then ?_))
  refine g_cond rfl (fun hk0 => ?_) (fun hk0 => ?_)
  ·skip
   refine g_seq (g_plain rfl ?_)
   refine l_load_blk hz25 mem5 rfl rfl Try.underlying82 rfl rfl rfl ?_
   refine l_load_agg hz25 mem0 rfl rfl Try.underlying47 rfl tz47 rfl (.take (.take .nil)) ?_
   have hz41 := St.frontL (l := [_, _, _, _, _, _, _, _, _, _]) hz25
   simp only [List.cons_append, List.nil_append] at hz41
   try clear hz25
   have hz42 := St.frontL (l := [_, _, _, _, _, _, _, _, _, _]) hz41
   simp only [List.cons_append, List.nil_append] at hz42
   try clear hz41
   have hz43 := St.frontL (l := [_, _, _, _, _, _, _, _, _, _]) hz42
   simp only [List.cons_append, List.nil_append] at hz43
   try clear hz42
   have hz44 := St.frontL (l := [_, _, _, _, _, _, _, _, _, _]) hz43
   simp only [List.cons_append, List.nil_append] at hz44
   try clear hz43
   refine l_call rfl rfl Try.func54 rfl rfl (.cons rfl (.cons rfl .nil)) (moveD b X hwf i (by simpa [Gm.abs] using hi) hmay 0 _ (St.rows (τ := gW b X) hz44)) ?_
   rintro _ wm ⟨Y, rfl, hY, hX2⟩
   have hz45 := hX2 _ _ _ _ hz44
   simp only [gW, List.cons_append, List.nil_append] at hz45
   try clear hz44
   refine l_nil ?_
   refine e_x (x_nil (g_then ?_))
   refine g_seq (g_plain rfl ?_)
   refine l_store_blk hz45 (.tail (.tail (.tail (.tail (.tail (.tail (.tail (.tail .head)))))))) .zero rfl tz4 rfl rfl rfl (fun wz46 hz46 => ?_)
   try clear hz45
   refine l_nil ?_
   refine e_x (x_nil (g_then ?_))
   refine g_ret (g_then_ret (g_blk_ret (g_endr (rec := rec .busy none) (hz46.ok mem5) ?_)))
   rw [hrp]
   have hz47 := St_putObj (o' := .loop (rec .done (some .ret))) hz46 (.tail (.tail (.tail (.tail (.tail .head)))))
   try clear hz46
   have hz48 := St.frontL (l := [_, _, _, _, _, _, _, _, _, _]) hz47
   simp only [List.cons_append, List.nil_append] at hz48
   try clear hz47
   have hz49 := St.frontL (l := [_, _, _, _, _, _, _, _, _, _]) hz48
   simp only [List.cons_append, List.nil_append] at hz49
   try clear hz48
   have hz50 := St.frontL (l := [_, _, _, _, _, _, _, _, _, _]) hz49
   simp only [List.cons_append, List.nil_append] at hz50
   try clear hz49
   have hz51 := St.frontL (l := [_, _, _, _, _, _, _, _, _, _]) hz50
   simp only [List.cons_append, List.nil_append] at hz51
   try clear hz50
   have hz52 := St.frontL (l := [_, _, _, _, _, _, _, _, _, _]) hz51
   simp only [List.cons_append, List.nil_append] at hz52
   try clear hz51
   have hz53 := St.frontL (l := [_, _, _, _, _, _, _, _, _, _]) hz52
   simp only [List.cons_append, List.nil_append] at hz53
   try clear hz52
   have hz54 := sep_put (l := [_, _, _, _, _]) (τ' := []) (List.Perm.refl _) hz53
   simp only [List.cons_append, List.nil_append] at hz54
   try clear hz53
   have hz55 := St.frontL (l := [_, _, _, _, _, _]) hz54
   simp only [List.cons_append, List.nil_append] at hz55
   try clear hz54
   have hz56 := St.frontL (l := [_, _, _, _, _]) hz55
   simp only [List.cons_append, List.nil_append] at hz56
   try clear hz55
   have hz57 := St.frontL (l := [_, _, _, _, _]) hz56
   simp only [List.cons_append, List.nil_append] at hz57
   try clear hz56
   have hz58 := St.frontL (l := [_, _, _, _, _]) hz57
   simp only [List.cons_append, List.nil_append] at hz58
   try clear hz57
   have hz59 := St.frontL (l := [_, _, _, _, _]) hz58
   simp only [List.cons_append, List.nil_append] at hz59
   try clear hz58
   refine .inr ⟨rfl, _, ⟨Y, pre, i, rfl, by omega, hY, rfl⟩, St.transS ?_⟩
   have hze := St_left (τ := [_, _, _, _, _, _]) (σ := [_]) hz59
   rw [show k - (pre.length : Int) = 0 from hk0] at hze ⊢
   exact hze
  ·skip
   refine g_skip (g_then (g_plain rfl ?_))
   refine l_load_blk hz25 mem3 rfl rfl Try.underlying3 rfl rfl rfl ?_
   refine l_sub rfl rfl rfl rfl (w_i64 (by omega)) ?_
   refine l_store_blk hz25 (.tail (.tail (.tail .head))) .zero rfl tz3 rfl rfl rfl (fun wz61 hz61 => ?_)
   try clear hz25
   refine l_nil ?_
   refine e_x (x_nil ?_)
   refine g_blk (g_endn (rec := rec .busy none) (hz61.ok mem1) ?_)
   rw [hrp]
   have hz62 := St_putObj (o' := .loop (rec .ready none)) hz61 (.tail .head)
   try clear hz61
   have hz63 := St.frontL (l := [_, _, _, _, _, _]) hz62
   simp only [List.cons_append, List.nil_append] at hz63
   try clear hz62
   have hz64 := St.frontL (l := [_, _, _, _, _, _]) hz63
   simp only [List.cons_append, List.nil_append] at hz64
   try clear hz63
   have hz65 := St.frontL (l := [_, _, _, _, _, _]) hz64
   simp only [List.cons_append, List.nil_append] at hz65
   try clear hz64
   have hz66 := St.frontL (l := [_, _, _, _, _, _]) hz65
   simp only [List.cons_append, List.nil_append] at hz66
   try clear hz65
   have hz67 := St.frontL (l := [_, _, _, _, _, _]) hz66
   simp only [List.cons_append, List.nil_append] at hz67
   try clear hz66
   have hz68 := St.frontL (l := [_, _, _, _, _, _]) hz67
   simp only [List.cons_append, List.nil_append] at hz68
   try clear hz67
   have hz69 := sep_put (l := [_, _, _, _, _]) (τ' := []) (List.Perm.refl _) hz68
   simp only [List.cons_append, List.nil_append] at hz69
   try clear hz68
   have hz70 := St.frontL (l := [_, _, _, _, _, _]) hz69
   simp only [List.cons_append, List.nil_append] at hz70
   try clear hz69
   have hz71 := St.frontL (l := [_, _, _, _, _, _]) hz70
   simp only [List.cons_append, List.nil_append] at hz71
   try clear hz70
   have hz72 := St.frontL (l := [_, _, _, _, _, _]) hz71
   simp only [List.cons_append, List.nil_append] at hz72
   try clear hz71
   have hz73 := St.frontL (l := [_, _, _, _, _, _]) hz72
   simp only [List.cons_append, List.nil_append] at hz73
   try clear hz72
   have hz74 := St.frontL (l := [_, _, _, _, _, _]) hz73
   simp only [List.cons_append, List.nil_append] at hz74
   try clear hz73
   refine .inl ⟨rfl, _, ⟨rfl, by simp; omega⟩, St.transS ?_⟩
   have hze := St_left (τ := [_, _, _, _, _, _]) (σ := [_]) hz74
   rw [show k - ((pre ++ [i]).length : Int) = k - (pre.length : Int) - 1 by simp; omega]
   exact hze
 ·obtain ⟨r, rfl, T, hT, hTr⟩ := he
  have h9 := hTr _ _ _ [] (hz12.cast (by simp))
  rcases hT with ⟨A, rfl, rfl, hlk⟩ | ⟨_, hpre, Y, pre0, i, rfl, hlk, hY, rfl⟩
  ·simp only [List.append_nil] at h9
   have hnone : (movesG X.abs)[k.toNat]? = none := List.getElem?_eq_none (by omega)
   have hnone : (movesG X.abs)[k.toNat]? = none ∧ afterDo X.abs k.toNat = X.abs := ⟨hnone, by unfold afterDo; rw [hnone]⟩
   refine ⟨_, rfl, ?_⟩
   have hz81 := St.frontL (l := [_, _, _, _, _]) h9
   simp only [List.cons_append, List.nil_append] at hz81
   try clear h9
   have hz82 := sep_take (l := [_, _, _, _, _]) (τ' := []) (List.Perm.refl _) hz81
   simp only [List.cons_append, List.nil_append] at hz82
   try clear hz81
   refine ⟨none, w4.putObj (D + 1) (.loop (rec .exhausted none)), by rw [run_endLoop (hz82.ok (.head _)) (by rw [hst]; decide), hrs, hpd], ?_⟩
   have hz83 := St_putObj (o' := .loop (rec .exhausted none)) hz82 .head
   try clear hz82
   refine (g_blk (g_then ?_) : RunGE _ [{ target := .collected D, args := #[] }] .normal _ _ _) a ha
   refine g_seq (g_plain rfl ?_)
   refine l_store_blk hz83 (.tail (.tail (.tail .head))) .zero rfl tz4 rfl rfl rfl (fun wz84 hz84 => ?_)
   try clear hz83
   refine l_nil ?_
   refine e_x (x_nil (g_then ?_))
   have hz85 := St_putObj (o' := .deferred none) hz84 (.tail .head)
   refine g_ret (g_doneC (D := D) Try.results42 (hz84.ok mem1) (.cell rfl (run_loadVar1 Try.underlying4 rfl (blk_cell (hz85.ok mem3) rfl).1) .nil) ?_)
   have hz86 := St.frontL (l := [_, _, _, _, _, _, _, _, _]) hz85
   simp only [List.cons_append, List.nil_append] at hz86
   try clear hz85
   have hz87 := St.frontL (l := [_, _, _, _, _, _, _, _, _]) hz86
   simp only [List.cons_append, List.nil_append] at hz87
   try clear hz86
   have hz88 := St.frontL (l := [_, _, _, _, _, _, _, _, _]) hz87
   simp only [List.cons_append, List.nil_append] at hz88
   try clear hz87
   have hz89 := St.frontL (l := [_, _, _, _, _, _, _, _, _]) hz88
   simp only [List.cons_append, List.nil_append] at hz89
   try clear hz88
   exact ⟨_, rfl, _, by rw [hnone.1]; rfl, hnone.2.symm, St.transS (St_left (τ := [_, _, _, _]) (σ := [_, _, _, _, _, _, _]) hz89)⟩
  ·simp only [gW, List.cons_append, List.nil_append, List.append_nil] at h9
   have hsome : (movesG X.abs)[k.toNat]? = some i := by
    obtain ⟨t, ht⟩ := hpre
    rw [← ht, show k.toNat = pre0.length by omega]
    simp
   have hsome : (movesG X.abs)[k.toNat]? = some i ∧ afterDo X.abs k.toNat = stepG X.abs i := ⟨hsome, by unfold afterDo; rw [hsome]⟩
   refine ⟨_, rfl, ?_⟩
   have hz101 := St.frontL (l := [_, _, _, _, _]) h9
   simp only [List.cons_append, List.nil_append] at hz101
   try clear h9
   have hz102 := sep_take (l := [_, _, _, _, _]) (τ' := []) (List.Perm.refl _) hz101
   simp only [List.cons_append, List.nil_append] at hz102
   try clear hz101
   refine ⟨(some .ret), w4.putObj (D + 1) (.loop (rec .exhausted (some .ret))), by rw [run_endLoop (hz102.ok (.head _)) (by rw [hst]; decide), hrs, hpd], ?_⟩
   have hz103 := St_putObj (o' := .loop (rec .exhausted (some .ret))) hz102 .head
   try clear hz102
   refine (?_ : RunG _ _ none 0 [{ target := .collected D, args := #[] }] .ret _ _ _) a ha
   have hz104 := St_putObj (o' := .deferred none) hz103 (.tail .head)
   refine g_ret (g_blk_ret (g_then_ret (g_doneC (D := D) Try.results42 (hz103.ok mem1) (.cell rfl (run_loadVar1 Try.underlying4 rfl (blk_cell (hz104.ok mem3) rfl).1) .nil) ?_)))
   have hz105 := St.frontL (l := [_, _, _, _, _, _, _, _, _]) hz104
   simp only [List.cons_append, List.nil_append] at hz105
   try clear hz104
   have hz106 := St.frontL (l := [_, _, _, _, _, _, _, _, _]) hz105
   simp only [List.cons_append, List.nil_append] at hz106
   try clear hz105
   have hz107 := St.frontL (l := [_, _, _, _, _, _, _, _, _]) hz106
   simp only [List.cons_append, List.nil_append] at hz107
   try clear hz106
   have hz108 := St.frontL (l := [_, _, _, _, _, _, _, _, _]) hz107
   simp only [List.cons_append, List.nil_append] at hz108
   try clear hz107
   exact ⟨_, rfl, _, by rw [hsome.1]; rfl, by rw [hsome.2]; exact hY, St.transS (St_left (τ := [_, _, _, _]) (σ := [_, _, _, _, _, _, _]) hz108)⟩
end Go.Proofs.Ytgfkagaacdblbaa.W
