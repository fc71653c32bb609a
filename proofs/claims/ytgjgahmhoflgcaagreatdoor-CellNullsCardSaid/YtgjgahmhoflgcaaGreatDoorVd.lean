/- Regions that draw their order and hold calls or new memory: what may be taken first under a condition on the world, and whatever comes up else. -/
import Derived.Test.YtgjgahmhoflgcaaGreatDoorVw
import Derived.OrdersHeld
set_option linter.unusedVariables false
set_option linter.unusedSimpArgs false
namespace Go.Vc
open Go.RowKit
theorem mem5 {α : Type} {a b0 b1 b2 b3 b4 : α} {l : List α} : a ∈ b0 :: b1 :: b2 :: b3 :: b4 :: a :: l := .tail _ mem4
theorem mem6 {α : Type} {a b0 b1 b2 b3 b4 b5 : α} {l : List α} : a ∈ b0 :: b1 :: b2 :: b3 :: b4 :: b5 :: a :: l := .tail _ mem5
theorem mem7 {α : Type} {a b0 b1 b2 b3 b4 b5 b6 : α} {l : List α} : a ∈ b0 :: b1 :: b2 :: b3 :: b4 :: b5 :: b6 :: a :: l := .tail _ mem6
theorem mem8 {α : Type} {a b0 b1 b2 b3 b4 b5 b6 b7 : α} {l : List α} : a ∈ b0 :: b1 :: b2 :: b3 :: b4 :: b5 :: b6 :: b7 :: a :: l := .tail _ mem7
def valOp : Op → Bool
 | .move _ | .assign _ | .binOp .. | .convert .. | .slice .. | .fieldAddr .. | .indexAddr .. | .index .. | .extract .. | .load .. | .unOp .. | .pick .. => true
 | _ => false
theorem valOp_run {P : Program} {ρ : Operand → Value} {o : Oper} {w w' : World} {n : Next} (h : valOp o.op = true) (hr : (execOp ρ o).run P w = .ok n w') : ∃ v, n = .value v := by
  have key : ∀ s : Sem Value, (Bind.bind s fun x => pure (Next.value x) : Sem Next).run P w = .ok n w' → ∃ v, n = .value v := by
    intro s hs
    rw [Sem.run_bind] at hs
    cases e : s.run P w with
    | ok v w1 => rw [e] at hs; simp at hs; exact ⟨v, hs.1.symm⟩
    | halt x w1 => rw [e] at hs; simp at hs
  cases ho : o.op <;> rw [ho] at h <;> simp only [valOp] at h <;> first | (cases h; done) | skip
  all_goals simp only [execOp, ho] at hr
  all_goals first
    | exact key _ hr
    | (simp at hr; exact ⟨_, hr.1.symm⟩)
    | (rw [Sem.run_bind] at hr
       rename_i c a b
       cases e : (asBool (ρ c)).run P w with
       | ok v w1 => rw [e] at hr; simp at hr; exact ⟨_, hr.1.symm⟩
       | halt x w1 => rw [e] at hr; simp at hr)
theorem Z4l {l r : List Oper} {i : Nat} {o : Oper} (h : l.drop i = o :: r) : l.toArray[i]? = some o := by
 have := congrArg (·[0]?) h
 simpa [List.getElem?_drop] using this
def RunA (P : Program) (N : Nat) (ops : Array Oper) (Q : Post) (S : World → Prop) (fuel : Nat) (L : List Bool) (ρ : Env) (w : World) : Prop :=
 ∀ a, Fits N ρ a → wpAnyH P .any ops (fun e a w => e = .normal ∧ Q .normal a w) S fuel L.toArray a w
def Got (d : Nat) (v : Value) : Post := fun _ a _ => a.tmps[d]? = some v
section
variable {P : Program} {N : Nat} {Q : Post} {ρ : Env} {w : World} {S : World → Prop} {ops : Array Oper} {L L' : List Bool} {fuel : Nat}
theorem Z04 {d : Nat} {v : Value} (h : ρ.get d = some v) : RunE N .normal (Got d v) ρ w := fun a ha => ha.2.2 d v h
theorem Z1a {i n : Nat} {l : List Oper} (L : List Bool) (S : World → Prop) (hm : P.follows .mixedOrders = true) (hn : l.length = n) (hL : List.replicate n false = L) (n : RunA P N l.toArray Q S n L ρ w.drew) : RunC P N (.region i l.toArray true) Q ρ w := fun a ha =>
 wp_mono (wp_region_held (S := S) (Q := fun e a w => e = .normal ∧ Q .normal a w) hm (by
  have h := n a ha
  subst hL hn
  simpa using h)) fun e a' w' q => by rw [q.1]; exact q.2
theorem a_take {l : List Oper} (i : Nat) {oi : Oper} {v : Value} {d : Nat} {ri : List Oper} (hi : l.drop i = oi :: ri) (hs : Region.noSelect l.toArray = true) (hf : Region.free .any l.toArray L.toArray i = true) (hr : (Region.ready .any l.toArray L.toArray).contains i = true)
  (hv : valOp oi.op = true) (hd : oi.dst = some d) (hN : Nat.blt d N = true) (hg : Z0t l.toArray ρ oi.guard = true) (hL : L.set i true = L') (hS : S w)
  (hrun : ∀ w1, S w1 → RunL P N l.toArray ⟨true, Got d v⟩ [oi] ρ w1) (n : RunA P N l.toArray Q S fuel L' ((d, v) :: ρ) w) : RunA P N l.toArray Q S (fuel + 1) L ρ w := fun a ha => by
 have hw := Z1X ha hg
 have hy : YieldsIf P l.toArray S oi v a := .inl ⟨hw, fun w1 s1 => by
  have h1 := hrun w1 s1 a ha
  unfold lst at h1
  simp only [cond_true] at h1
  unfold wpStill at h1
  rw [if_pos hw] at h1
  unfold Oper.still at h1
  cases e : (execOp a.eval oi).run P w1 with
  | ok nx w2 =>
   obtain ⟨u, rfl⟩ := valOp_run hv e
   rw [e] at h1
   obtain ⟨rfl, h2⟩ := h1
   have h3 : (a.put oi.dst u).tmps[d]? = some v := h2
   rw [hd] at h3
   have hlt : d < a.tmps.size := by rw [ha.2.1]; simpa [Nat.blt_eq] using hN
   simp [Act.put, Array.getElem?_setIfInBounds, hlt] at h3
   rw [h3]
  | halt x w2 => rw [e] at h1; exact h1.elim⟩
 have h := n _ (ha.put d hN v)
 subst hL
 refine wpAnyH_take (Z4l hi) hs hf hr (fun c a w q => by cases q.1) hy hS ?_
 rw [hd]
 simpa using h
theorem Zu {l : List Oper} (i : Nat) {oi : Oper} {v : Value} {d : Nat} {ri : List Oper} (hS : S w) (hi : l.drop i = oi :: ri := by exact rfl) (hs : Region.noSelect l.toArray = true := by kernel_rfl) (hf : Region.free .any l.toArray L.toArray i = true := by kernel_rfl) (hr : (Region.ready .any l.toArray L.toArray).contains i = true := by kernel_rfl) (hv : valOp oi.op = true := by exact rfl) (hd : oi.dst = some d := by exact rfl) (hN : Nat.blt d N = true := by exact rfl) (hg : Z0t l.toArray ρ oi.guard = true := by exact rfl) (hL : L.set i true = L' := by exact rfl) (hrun : ∀ w1, S w1 → RunL P N l.toArray ⟨true, Got d v⟩ [oi] ρ w1) (n : RunA P N l.toArray Q S fuel L' ((d, v) :: ρ) w) : RunA P N l.toArray Q S (fuel + 1) L ρ w := a_take i hi hs hf hr hv hd hN hg hL hS hrun n
theorem Z4H {Q' : Post} {K : Act → World → Prop} {i : Nat} {oi : Oper} (hi : ops[i]? = some oi) {a : Act} {w : World} (h : wpList P ops (fun e a w => e = .normal ∧ K a w) [oi] a w) : wpOp P ops Q' i K a w := by
 unfold wpOp
 rw [hi]
 unfold wpList at h
 show if _ then _ else _
 split
 ·rename_i hw
  rw [if_pos hw] at h
  rcases h with h | ⟨_, ⟨a', w'', hx, _⟩⟩
  ·refine .inl ?_
   unfold Oper.wp at h ⊢
   revert h
   generalize (execOp a.eval oi).run P w = r
   intro h
   match r, h with
   | .ok (.value v) w', h => exact h.2
   | .ok .skip w', h => exact h.2
   | .ok (.defer d) w', h => exact h.2
   | .ok (.enter f args) w', h =>
    refine Calls.mono h fun e w'' hr => ?_
    match e, hr with
    | .returned v, hr => exact hr.2
    | .panicked ch, hr => exact absurd hr.1 (by simp)
    | .outgrown, ⟨_, _, hr⟩ => exact absurd hr.1 (by simp)
   | .ok (.row row args) w', h => exact Rows.mono h fun v w'' hr => hr.2
   | .halt (.panic v) w', h => exact absurd h.1 (by simp)
  cases hx
 rename_i hw
 rw [if_neg hw] at h
 exact h.2
abbrev AnyK (P : Program) (ops : Array Oper) (Q : Post) (S : World → Prop) (fuel : Nat) (L : List Bool) : Post := fun e a w => e = .normal ∧ (S w ∧ wpAnyH P .any ops (fun e a w => e = .normal ∧ Q .normal a w) S fuel L.toArray a w)
theorem Z0n (hS : S w) (n : RunA P N ops Q S fuel L ρ w) : RunE N .normal (AnyK P ops Q S fuel L) ρ w := fun a ha => ⟨rfl, hS, n a ha⟩
theorem Z0v {l ri : List Oper} (i : Nat) {oi : Oper} (hr : Region.ready .any l.toArray L.toArray = [i]) (hi : l.drop i = oi :: ri) (hL : L.set i true = L') (n : RunL P N l.toArray ⟨false, AnyK P l.toArray Q S fuel L'⟩ [oi] ρ w) : RunA P N l.toArray Q S (fuel + 1) L ρ w := fun a ha =>
 wpAnyH_all hr (by simp) fun j hj => by
  simp only [List.mem_singleton] at hj
  subst hj hL
  have := n a ha
  unfold lst at this
  simp only [cond_false] at this
  have h2 := Z4H (Q' := fun e a w => e = .normal ∧ Q .normal a w) (Z4l hi) this
  simpa using h2
theorem Z2B {l ri rj : List Oper} (i j : Nat) {oi oj : Oper} {L'' : List Bool} (hr : Region.ready .any l.toArray L.toArray = [i, j]) (hi : l.drop i = oi :: ri) (hj : l.drop j = oj :: rj) (hL : L.set i true = L') (hL2 : L.set j true = L'')
  (n : RunL P N l.toArray ⟨false, AnyK P l.toArray Q S fuel L'⟩ [oi] ρ w) (m : RunL P N l.toArray ⟨false, AnyK P l.toArray Q S fuel L''⟩ [oj] ρ w) : RunA P N l.toArray Q S (fuel + 1) L ρ w := fun a ha =>
 wpAnyH_all hr (by simp) fun k hk => by
  simp only [List.mem_cons, List.not_mem_nil, or_false] at hk
  subst hL hL2
  rcases hk with rfl | rfl
  ·have := n a ha
   unfold lst at this
   simp only [cond_false] at this
   have h2 := Z4H (Q' := fun e a w => e = .normal ∧ Q .normal a w) (Z4l hi) this
   simpa using h2
  have := m a ha
  unfold lst at this
  simp only [cond_false] at this
  have h2 := Z4H (Q' := fun e a w => e = .normal ∧ Q .normal a w) (Z4l hj) this
  simpa using h2
theorem Z0B (hr : Region.ready .any ops L.toArray = []) (n : RunE N .normal Q ρ w) : RunA P N ops Q S fuel L ρ w := fun a ha =>
 wpAnyH_done hr ⟨rfl, n a ha⟩ _
end
end Go.Vc
