/- The walk's own layer: a frame as a short list of live slots, the heap as a list of separate rows; one rule for each operation. It rests on the kit's wp alone. -/
import Derived.WalkKit
import Derived.Deep.LoopGhost
import Derived.Still
import Derived.StillTail
import Derived.Laws.Externs
import Derived.Laws.Slices
import Derived.Laws.BytesString
import Derived.Maps.AppendAt
import Derived.Deep.AppendLies
import Derived.KernelRfl
set_option linter.unusedVariables false
set_option linter.unusedSimpArgs false
namespace Go.Vc
theorem Zca {α : Type _} (a : α) (l m : List α) : a :: l ++ m = a :: (l ++ m) := rfl
theorem Zna {α : Type _} (l : List α) : [] ++ l = l := rfl
abbrev Zy : Bool := true
abbrev Zz : Bool := false
open Go.RowKit
/-! ### frames as lists of live slots -/
abbrev Env := List (Nat × Value)
def Env.get : Env → Nat → Option Value
 | [], _ => none
 | (s, v) :: r, t => bif Nat.beq s t then some v else Env.get r t
def Fits (N : Nat) (ρ : Env) (a : Act) : Prop := a.defers = [] ∧ a.tmps.size = N ∧ ∀ s v, ρ.get s = some v → a.tmps[s]? = some v
def Z0g (ρ : Env) : Operand → Option Value
 | .tmp t => ρ.get t
 | .const v => some v
 | .func f => some (.func (.func f) #[] #[])
 | .global g => some (.pointer (some ⟨g, 0, none⟩))
theorem Fits.eval {N : Nat} {ρ : Env} {a : Act} (h : Fits N ρ a) {x : Operand} {v : Value} (hv : Z0g ρ x = some v) : a.eval x = v := by
 cases x with
 | tmp t =>
  have := h.2.2 t v hv
  simp [Act.eval, Array.getD_eq_getD_getElem?, this]
 | const u => simpa [Z0g, Act.eval] using hv
 | global g => simpa [Z0g, Act.eval] using hv
 | func f => simpa [Z0g, Act.eval] using hv
theorem Env.get_cons (s : Nat) (v : Value) (r : Env) (t : Nat) : Env.get ((s, v) :: r) t = if s = t then some v else Env.get r t := by
 by_cases h : s = t
 ·subst h; simp [Env.get]
 have : Nat.beq s t = false := by
  cases hb : Nat.beq s t with
  | true => exact absurd (Nat.eq_of_beq_eq_true hb) h
  | false => rfl
 simp [Env.get, this, h]
theorem Fits.put {N : Nat} {ρ : Env} {a : Act} (h : Fits N ρ a) (d : Nat) (hd : Nat.blt d N = true) (v : Value) : Fits N ((d, v) :: ρ) (a.put (some d) v) := by
  have hd' : d < N := by have : d + 1 ≤ N := by simpa [Nat.blt] using hd
                         omega
  refine ⟨h.1, by simpa [Act.put] using h.2.1, fun s u hs => ?_⟩
  rw [Env.get_cons] at hs
  by_cases e : d = s
  · subst e
    simp only [if_true, Option.some.injEq] at hs
    subst hs
    simp [Act.put, Array.getElem?_setIfInBounds, h.2.1, hd']
  rw [if_neg e] at hs
  simp [Act.put, Array.getElem?_setIfInBounds, e, h.2.2 s u hs]
inductive Z2l (ρ : Env) : Env → Prop
 | nil : Z2l ρ []
 | cons {s : Nat} {u v : Value} {r : Env} (h : ρ.get s = some u) (e : u = v) (t : Z2l ρ r) : Z2l ρ ((s, v) :: r)
theorem Z2l.get {ρ ρ' : Env} (h : Z2l ρ ρ') : ∀ s v, ρ'.get s = some v → ρ.get s = some v := by
 induction h with
 | nil => intro s v hv; cases hv
 | @cons s u v r hg e t ih =>
  intro s' v' hv
  rw [Env.get_cons] at hv
  split at hv
  ·rename_i es
   cases hv
   subst es
   rw [hg, e]
  exact ih s' v' hv
theorem Fits.covers {N : Nat} {ρ ρ' : Env} {a : Act} (h : Fits N ρ a) (hc : Z2l ρ ρ') : Fits N ρ' a :=
 ⟨h.1, h.2.1, fun s v hs => h.2.2 s v (hc.get s v hs)⟩
inductive Keep (ρ : Env) : List Nat → Env → Prop
 | nil : Keep ρ [] []
 | cons {s : Nat} {v : Value} {ks : List Nat} {r : Env} (h : ρ.get s = some v) (t : Keep ρ ks r) : Keep ρ (s :: ks) ((s, v) :: r)
theorem Keep.covers {ρ : Env} {ks : List Nat} {ρ' : Env} (h : Keep ρ ks ρ') : Z2l ρ ρ' := by
 induction h with
 | nil => exact .nil
 | cons hg t ih => exact .cons hg rfl ih
/-! ### the heap as separate rows -/
structure As where
 fp : Nat → Prop
 ok : World → Prop
 loc : ∀ w w' : World, (∀ k, fp k → w'.heap[k]? = w.heap[k]?) → ok w → ok w'
def As.blk (g : Nat) (E : TypeId) (cs : List Value) : As :=
 ⟨fun k => k = g, fun w => w.heap[g]? = some (.cells cs.toArray E (0, 0)), fun w w' h hw => (h g rfl).trans hw⟩
def As.row (E : TypeId) (size : Nat) (v : Value) (n : Nat) (cs : List Value) : As :=
 ⟨fun k => v.ownBlock = some k, fun w => w.ownsRow 0 E size v n cs, fun w w' h hw => by
  refine ⟨hw.1, ?_⟩
  rcases hw.2 with hn | ⟨g, cap, cur, rfl, hb, hg, rest⟩
  ·exact .inl hn
  ·exact .inr ⟨g, cap, cur, rfl, hb, (h g rfl).trans hg, rest⟩⟩
def Sep (B : Nat) (M : Nat → Prop) (w : World) : List As → Prop
 | [] => True
 | A :: σ => A.ok w ∧ (∀ k, A.fp k → (B ≤ k ∨ M k) ∧ k < w.heap.size) ∧ (∀ A' ∈ σ, ∀ k, A.fp k → ¬ A'.fp k) ∧ Sep B M w σ
structure Ext (B : Nat) (M : Nat → Prop) (w w' : World) : Prop where
 os : w'.os = w.os
 tape : w'.tape = w.tape
 output : w'.output = w.output
 size : w.heap.size ≤ w'.heap.size
 block : ∀ k, k < B → ¬ M k → w'.heap[k]? = w.heap[k]?
theorem Ext.refl (B : Nat) (M : Nat → Prop) (w : World) : Ext B M w w := ⟨rfl, rfl, rfl, Nat.le_refl _, fun _ _ _ => rfl⟩
theorem Ext.trans {B : Nat} {M : Nat → Prop} {a b c : World} (h : Ext B M a b) (k : Ext B M b c) : Ext B M a c :=
 ⟨k.os.trans h.os, k.tape.trans h.tape, k.output.trans h.output, Nat.le_trans h.size k.size, fun i hi hm => (k.block i hi hm).trans (h.block i hi hm)⟩
theorem Ext.mono {B B' : Nat} {M M' : Nat → Prop} {a b : World} (h : Ext B M a b) (hB : B' ≤ B) (hM : ∀ k, k < B' → M k → M' k) : Ext B' M' a b :=
 ⟨h.os, h.tape, h.output, h.size, fun i hi hm => h.block i (by omega) (fun m => hm (hM i hi m))⟩
abbrev Z0J : Nat → Prop := fun _ => False
theorem Ext.below {B : Nat} {a b : World} (h : Ext B Z0J a b) : Below B a b := ⟨h.os, h.tape, h.output, h.size, fun k hk => h.block k hk (fun e => e)⟩
structure St (w0 : World) (B : Nat) (M : Nat → Prop) (σ : List As) (w : World) : Prop where
 ext : Ext B M w0 w
 base : B ≤ w.heap.size
 sep : Sep B M w σ
section
variable {w0 w w' : World} {B : Nat} {M : Nat → Prop} {σ : List As}
theorem St.start (w : World) : St w w.heap.size Z0J [] w := ⟨.refl _ _ _, Nat.le_refl _, trivial⟩
theorem Sep.lt {A : As} : ∀ {σ : List As}, Sep B M w σ → A ∈ σ → ∀ k, A.fp k → (B ≤ k ∨ M k) ∧ k < w.heap.size
 | _ :: _, h, hm => by
  cases hm with
  | head => exact h.2.1
  | tail _ ht => exact Sep.lt h.2.2.2 ht
theorem Sep.ok {A : As} : ∀ {σ : List As}, Sep B M w σ → A ∈ σ → A.ok w
 | _ :: _, h, hm => by
  cases hm with
  | head => exact h.1
  | tail _ ht => exact Sep.ok h.2.2.2 ht
theorem Sep.keep : ∀ {σ : List As}, Sep B M w σ → w.heap.size ≤ w'.heap.size → (∀ A ∈ σ, ∀ k, A.fp k → w'.heap[k]? = w.heap[k]?) → Sep B M w' σ
 | [], _, _, _ => trivial
 | A :: σ, h, hs, hb => ⟨A.loc w w' (hb A (.head _)) h.1, fun k hk => ⟨(h.2.1 k hk).1, Nat.lt_of_lt_of_le (h.2.1 k hk).2 hs⟩, h.2.2.1, Sep.keep h.2.2.2 hs fun A' hA' => hb A' (.tail _ hA')⟩
theorem St.grow (h : St w0 B M σ w) (hx : Ext w.heap.size Z0J w w') (A : As) (hok : A.ok w') (hfp : ∀ k, A.fp k → w.heap.size ≤ k ∧ k < w'.heap.size) : St w0 B M (A :: σ) w' := by
 have hk : Sep B M w' σ := h.sep.keep hx.size fun A hA k hk => hx.block k (h.sep.lt hA k hk).2 (fun e => e)
 refine ⟨h.ext.trans (hx.mono h.base fun _ _ e => e.elim), Nat.le_trans h.base hx.size, hok, fun k hk => ⟨.inl (Nat.le_trans h.base (hfp k hk).1), (hfp k hk).2⟩, fun A' hA' k hk hk' => ?_, hk⟩
 have := (h.sep.lt hA' k hk').2
 have := (hfp k hk).1
 omega
theorem St.same (h : St w0 B M σ w) (hx : Ext w.heap.size Z0J w w') : St w0 B M σ w' :=
 ⟨h.ext.trans (hx.mono h.base fun _ _ e => e.elim), Nat.le_trans h.base hx.size, h.sep.keep hx.size fun A hA k hk => hx.block k (h.sep.lt hA k hk).2 (fun e => e)⟩
theorem Sep.swap_ {A A' : As} {σ : List As} (h : Sep B M w (A :: A' :: σ)) : Sep B M w (A' :: A :: σ) := by
 obtain ⟨h1, h2, h3, h4, h5, h6, h7⟩ := h
 exact ⟨h4, h5, fun X hX k hk hk' => by
  cases hX with
  | head => exact h3 A' (.head _) k hk' hk
  | tail _ ht => exact h6 X ht k hk hk', h1, h2, fun X hX => h3 X (.tail _ hX), h7⟩
theorem Sep.drop_ {A : As} {σ : List As} (h : Sep B M w (A :: σ)) : Sep B M w σ := h.2.2.2
theorem St.ok {A : As} (h : St w0 B M σ w) (hm : A ∈ σ) : A.ok w := h.sep.ok hm
theorem St.forget {A : As} (h : St w0 B M (A :: σ) w) : St w0 B M σ w := ⟨h.ext, h.base, h.sep.drop_⟩
theorem St.cast {σ' : List As} (h : St w0 B M σ w) (e : σ = σ') : St w0 B M σ' w := e ▸ h
end
/-! ### the three goals of a walk -/
abbrev Post := Exit → Act → World → Prop
def RunC (P : Program) (N : Nat) (c : Code) (Q : Post) (ρ : Env) (w : World) : Prop := ∀ a, Fits N ρ a → Code.wp P c Q a w
structure Z26 where
 still : Bool
 post : Post
def lst (P : Program) (ops : Array Oper) (Q : Z26) (l : List Oper) (a : Act) (w : World) : Prop :=
 bif Q.still then wpStill P ops w (fun a' => Q.post .normal a' w) l a else wpList P ops Q.post l a w
def RunL (P : Program) (N : Nat) (ops : Array Oper) (Q : Z26) (l : List Oper) (ρ : Env) (w : World) : Prop := ∀ a, Fits N ρ a → lst P ops Q l a w
def RunE (N : Nat) (e : Exit) (Q : Post) (ρ : Env) (w : World) : Prop := ∀ a, Fits N ρ a → Q e a w
section code
variable {P : Program} {N : Nat} {Q : Post} {ρ : Env} {w : World}
theorem c_keep (ks : List Nat) {ρ' : Env} {c : Code} (h : Keep ρ ks ρ') (n : RunC P N c Q ρ' w) : RunC P N c Q ρ w := fun a ha => n a (ha.covers h.covers)
theorem Zk (ks : List Nat) {ρ' : Env} {c : Code} (n : RunC P N c Q ρ' w) (h : Keep ρ ks ρ' := by repeat first | exact Keep.nil | apply Keep.cons rfl) : RunC P N c Q ρ w := c_keep ks h n
theorem Z03 {x y : Code} (n : RunC P N x (Exit.then (y.wp P Q) Q) ρ w) : RunC P N (.seq x y) Q ρ w := fun a ha => wp_seq (n a ha)
theorem Z0a (n : RunE N .normal Q ρ w) : RunC P N .skip Q ρ w := fun a ha => wp_skip (n a ha)
theorem Z6C {l : Nat} (n : RunE N .normal Q ρ w) : RunC P N (.label l) Q ρ w := fun a ha => wp_label (n a ha)
theorem Z0H {i : Nat} (n : RunE N (.exit i) Q ρ w) : RunC P N (.exit i) Q ρ w := fun a ha => wp_exit (n a ha)
theorem Z0i (n : RunE N .ret Q ρ w) : RunC P N .ret Q ρ w := fun a ha => wp_ret (n a ha)
theorem Z0d {i : Nat} {c : Code} (n : RunC P N c (Exit.inBlock i Q) ρ w) : RunC P N (.block i c) Q ρ w := fun a ha => wp_block (n a ha)
theorem Z00 {i : Nat} {l : List Oper} (n : RunL P N l.toArray ⟨false, Q⟩ l ρ w) : RunC P N (.region i l.toArray false) Q ρ w := fun a ha => wp_region_lit (n a ha)
theorem Z0c {c : Operand} {x y : Code} {p : Prop} {_ : Decidable p} (hc : Z0g ρ c = some (.bool (decide p))) (ht : p → RunC P N x Q ρ w) (hf : ¬ p → RunC P N y Q ρ w) : RunC P N (.cond c x y) Q ρ w := fun a ha =>
 wp_cond_split (ha.eval hc) (fun h => ht (of_decide_eq_true h) a ha) (fun h => hf (of_decide_eq_false h) a ha)
theorem Z08 {c : Operand} {x y : Code} {b : Bool} (hc : Z0g ρ c = some (.bool b)) (ht : b = true → RunC P N x Q ρ w) (hf : b = false → RunC P N y Q ρ w) : RunC P N (.cond c x y) Q ρ w := fun a ha =>
 wp_cond_split (ha.eval hc) (fun h => ht h a ha) (fun h => hf h a ha)
theorem c_cond_t {c : Operand} {x y : Code} {b : Bool} (hc : Z0g ρ c = some (.bool b)) (hb : b = true) (ht : RunC P N x Q ρ w) : RunC P N (.cond c x y) Q ρ w := fun a ha =>
 wp_cond_true (by rw [ha.eval hc, hb]) (ht a ha)
theorem Z0Q {c : Operand} {x y : Code} {b : Bool} (hc : Z0g ρ c = some (.bool b)) (hb : b = false) (hf : RunC P N y Q ρ w) : RunC P N (.cond c x y) Q ρ w := fun a ha =>
 wp_cond_false (by rw [ha.eval hc, hb]) (hf a ha)
theorem Z01 {ops : Array Oper} {Q : Z26} (n : RunE N .normal Q.post ρ w) : RunL P N ops Q [] ρ w := fun a ha => by
 unfold lst
 cases Q.still with
 | false => exact (show wpList P ops Q.post [] a w from n a ha)
 | true => exact (show wpStill P ops w (fun a' => Q.post .normal a' w) [] a from n a ha)
theorem Z2F {i : Nat} {l : List Oper} (hm : P.follows .mixedOrders = true) (hB : Region.lexB .any l.toArray = true) (n : RunL P N l.toArray ⟨true, Q⟩ l ρ w.drew) : RunC P N (.region i l.toArray true) Q ρ w := fun a ha =>
 wp_region_still_lit hm hB (n a ha)
theorem c_tail {i : Nat} {l : List Oper} (k : Nat) (hm : P.follows .mixedOrders = true) (hB : Region.lexTailB .any l.toArray k = true)
  (n : RunL P N l.toArray ⟨true, fun e a w' => e = .normal ∧ wpList P l.toArray Q (l.drop k) a w'⟩ (l.take k) ρ w.drew) : RunC P N (.region i l.toArray true) Q ρ w := fun a ha =>
 wp_region_still_tail k hm hB (by
  have := n a ha
  unfold lst at this
  simpa using this)
theorem e_tail {ops : Array Oper} {l : List Oper} (n : RunL P N ops ⟨false, Q⟩ l ρ w) : RunE N .normal (fun e a w' => e = .normal ∧ wpList P ops Q l a w') ρ w := fun a ha => ⟨rfl, n a ha⟩
-- what an exit meets
theorem Z02 {y : Code} (n : RunC P N y Q ρ w) : RunE N .normal (Exit.then (y.wp P Q) Q) ρ w := n
theorem Z06 {K : Act → World → Prop} {i : Nat} (n : RunE N (.exit i) Q ρ w) : RunE N (.exit i) (Exit.then K Q) ρ w := n
theorem Z07 {K : Act → World → Prop} (n : RunE N .ret Q ρ w) : RunE N .ret (Exit.then K Q) ρ w := n
theorem Z0F {i : Nat} (n : RunE N .normal Q ρ w) : RunE N .normal (Exit.inBlock i Q) ρ w := n
theorem Z0h {i : Nat} (n : RunE N .normal Q ρ w) : RunE N (.exit i) (Exit.inBlock i Q) ρ w := fun a ha => by simpa [Exit.inBlock] using n a ha
theorem Z62 {i j : Nat} (h : Nat.beq i j = false) (n : RunE N (.exit i) Q ρ w) : RunE N (.exit i) (Exit.inBlock j Q) ρ w := fun a ha => by
 have : ¬ i = j := fun e => by subst e; simp at h
 simpa [Exit.inBlock, this] using n a ha
theorem Z0k {i : Nat} (n : RunE N .ret Q ρ w) : RunE N .ret (Exit.inBlock i Q) ρ w := n
variable {fn : Func} {R : Ending → World → Prop}
theorem Z0e {t : Nat} {v : Value} (hr : fn.results = #[.tmp t]) (hv : ρ.get t = some v) (h : R (.returned v) w) : RunE N .ret (bodyPost P fn R) ρ w := fun a ha =>
 bodyPost_ret (by rw [results_tmp hr]; simp [Array.getD_eq_getD_getElem?, ha.2.2 t v hv]) ha.1 h
theorem Z0P {t u : Nat} {v x : Value} (hr : fn.results = #[.tmp t, .tmp u]) (hv : ρ.get t = some v) (hx : ρ.get u = some x) (h : R (.returned (.tuple #[v, x])) w) : RunE N .ret (bodyPost P fn R) ρ w := fun a ha =>
 bodyPost_ret (by rw [results_tmp2 hr]; simp [Array.getD_eq_getD_getElem?, ha.2.2 t v hv, ha.2.2 u x hx]) ha.1 h
theorem e_done0 (hr : fn.results = #[]) (h : R (.returned (.tuple #[])) w) : RunE N .normal (bodyPost P fn R) ρ w := fun a ha =>
 bodyPost_end (results_none hr _ _ _) ha.1 h
end code
def args0 : Nat → List Value → Env
 | _, [] => []
 | n, v :: l => (n, v) :: args0 (n + 1) l
theorem Z4b : ∀ (l : List Value) (n s : Nat) (v : Value), (args0 n l).get s = some v → n ≤ s ∧ l[s - n]? = some v
 | [], _, _, _, h => by cases h
 | x :: l, n, s, v, h => by
  simp only [args0] at h
  rw [Env.get_cons] at h
  split at h
  ·rename_i e; subst e; cases h; simp
  obtain ⟨h1, h2⟩ := Z4b l (n + 1) s v h
  refine ⟨by omega, ?_⟩
  rw [show s - n = (s - (n + 1)) + 1 from by omega, List.getElem?_cons_succ]
  exact h2
theorem enter {P : Program} {f : FuncId} {fn : Func} {c : Code} {args : List Value} {w : World} {R : Ending → World → Prop} (hf : P.funcs[f]? = some fn) (hb : fn.body = some c)
  (hN : Nat.ble args.length fn.ntmps = true) (n : RunC P fn.ntmps c (bodyPost P fn R) (args0 0 args) w) : Calls P f args.toArray w R := by
 have hN' : args.length ≤ fn.ntmps := by simpa using hN
 refine calls_of_wp hf hb (n _ ⟨rfl, by simp; omega, fun s v h => ?_⟩)
 obtain ⟨_, h2⟩ := Z4b _ _ _ _ h
 simp only [Nat.sub_zero] at h2
 have hlt : s < args.length := (List.getElem?_eq_some_iff.1 h2).1
 rw [Array.getElem?_append_left (by simpa using hlt)]
 simpa using h2
end Go.Vc
