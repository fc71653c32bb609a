/- Many rows of one's own as one: what a book of answers holds. -/
import Derived.Test.YtgjgahmhoflgcaaGreatDoorVe
set_option linter.unusedVariables false
set_option linter.unusedSimpArgs false
namespace Go.Vc
open Go.RowKit
abbrev Bag := List (Value × List Value)
def Bag.apart (ws : Bag) : Prop := ws.Pairwise fun p q => ∀ k, p.1.ownBlock = some k → q.1.ownBlock ≠ some k
section
variable {w0 w w' : World} {B : Nat} {M : Nat → Prop} {σ σ' : List As} {E : TypeId}
theorem Sep.front2_ {A X Y : As} (h : Sep B M w (X :: Y :: A :: σ)) : Sep B M w (A :: X :: Y :: σ) := (h.tail_ (fun s => s.swap_) (fun Z hZ => by
 simp only [List.mem_cons] at hZ ⊢
 rcases hZ with h | h | h <;> simp [h])).swap_
theorem Sep.front3_ {A X Y Z : As} (h : Sep B M w (X :: Y :: Z :: A :: σ)) : Sep B M w (A :: X :: Y :: Z :: σ) := (h.tail_ (fun s => s.front2_) (fun V hV => by
 simp only [List.mem_cons] at hV ⊢
 rcases hV with h | h | h | h <;> simp [h])).swap_
theorem Sep.front4_ {A X Y Z V : As} (h : Sep B M w (X :: Y :: Z :: V :: A :: σ)) : Sep B M w (A :: X :: Y :: Z :: V :: σ) := (h.tail_ (fun s => s.front3_) (fun U hU => by
 simp only [List.mem_cons] at hU ⊢
 rcases hU with h | h | h | h | h <;> simp [h])).swap_
theorem Sep.front5_ {A X Y Z V U : As} (h : Sep B M w (X :: Y :: Z :: V :: U :: A :: σ)) : Sep B M w (A :: X :: Y :: Z :: V :: U :: σ) := (h.tail_ (fun s => s.front4_) (fun T hT => by
 simp only [List.mem_cons] at hT ⊢
 rcases hT with h | h | h | h | h | h <;> simp [h])).swap_
theorem St.front3 {A X Y Z : As} (h : St w0 B M (X :: Y :: Z :: A :: σ) w) : St w0 B M (A :: X :: Y :: Z :: σ) w := ⟨h.ext, h.base, h.sep.front3_⟩
theorem St.front4 {A X Y Z V : As} (h : St w0 B M (X :: Y :: Z :: V :: A :: σ) w) : St w0 B M (A :: X :: Y :: Z :: V :: σ) w := ⟨h.ext, h.base, h.sep.front4_⟩
theorem St.front5 {A X Y Z V U : As} (h : St w0 B M (X :: Y :: Z :: V :: U :: A :: σ) w) : St w0 B M (A :: X :: Y :: Z :: V :: U :: σ) w := ⟨h.ext, h.base, h.sep.front5_⟩
theorem Z0N {P : Program} {N : Nat} {Q : Post} {ρ : Env} {S : World → Prop} {L L' : List Bool} {fuel : Nat} {l ri : List Oper} (i : Nat) {x : Operand} {ad : Addr} {d : Nat} {ty : TypeId} {pos : String} {af : Array Edge} {g : Option (Nat × Bool)}
  (hi : l.drop i = ⟨some d, .nilCheck x, ty, pos, af, g⟩ :: ri) (hs : Region.noSelect l.toArray = true) (hf : Region.free .any l.toArray L.toArray i = true) (hr : (Region.ready .any l.toArray L.toArray).contains i = true)
  (hN : Nat.blt d N = true) (hg : Z0t l.toArray ρ g = true) (hL : L.set i true = L') (hS : S w) (hx : Z0g ρ x = some (.pointer (some ad)))
  (n : RunA P N l.toArray Q S fuel L' ((d, .pointer (some ad)) :: ρ) w) : RunA P N l.toArray Q S (fuel + 1) L ρ w := fun a ha => by
 have hw := Z1X (o := ⟨some d, .nilCheck x, ty, pos, af, g⟩) ha hg
 have hy : YieldsIf P l.toArray S ⟨some d, .nilCheck x, ty, pos, af, g⟩ (.pointer (some ad)) a := .inl ⟨hw, fun w1 _ => by simp [execOp, ha.eval hx]⟩
 have h := n _ (ha.put d hN (.pointer (some ad)))
 subst hL
 refine wpAnyH_take (Z4l hi) hs hf hr (fun c a w q => by cases q.1) hy hS ?_
 simpa using h
/-! calls that turn several rows at once -/
def fps (τ : List As) : Nat → Prop := fun k => ∃ A ∈ τ, A.fp k
def Z1C (w w' : World) (τ τ' : List As) : Prop := ∀ w0 B M σ, St w0 B M (τ ++ σ) w → St w0 B M (τ' ++ σ) w'
theorem Sep.left : ∀ {τ : List As}, Sep B M w (τ ++ σ) → ∀ F : Nat → Prop, (∀ A ∈ τ, ∀ k, A.fp k → F k) → Sep w.heap.size F w τ
 | [], _, _, _ => trivial
 | A :: τ, h, F, hF => ⟨h.1, fun k hk => ⟨.inr (hF A (.head _) k hk), (h.2.1 k hk).2⟩, fun X hX => h.2.2.1 X (List.mem_append_left _ hX), Sep.left h.2.2.2 F fun X hX => hF X (.tail _ hX)⟩
theorem Sep.right : ∀ {τ : List As}, Sep B M w (τ ++ σ) → Sep B M w σ
 | [], h => h
 | _ :: _, h => Sep.right h.2.2.2
theorem Sep.cross : ∀ {τ : List As}, Sep B M w (τ ++ σ) → ∀ A ∈ τ, ∀ X ∈ σ, ∀ k, A.fp k → ¬ X.fp k
 | A :: τ, h, A', hA', X, hX, k, hk => by
  cases hA' with
  | head => exact h.2.2.1 X (List.mem_append_right _ hX) k hk
  | tail _ ht => exact Sep.cross h.2.2.2 A' ht X hX k hk
theorem St.rows {τ : List As} (h : St w0 B M (τ ++ σ) w) : Sep w.heap.size (fps τ) w τ := h.sep.left (fps τ) fun A hA k hk => ⟨A, hA, hk⟩
theorem St.startS {τ : List As} (h : Sep w.heap.size (fps τ) w τ) : St w w.heap.size (fps τ) τ w := ⟨.refl _ _ _, Nat.le_refl _, h⟩
theorem Sep.joins {F : Nat → Prop} (hB : B ≤ w.heap.size) (hF : ∀ k, F k → (B ≤ k ∨ M k) ∧ ∀ X ∈ σ, ¬ X.fp k) (hlt : ∀ X ∈ σ, ∀ k, X.fp k → k < w.heap.size) (hs : Sep B M w' σ) : ∀ {τ' : List As}, Sep w.heap.size F w' τ' → Sep B M w' (τ' ++ σ)
 | [], _ => hs
 | A :: τ', h => ⟨h.1, fun k hk => ⟨(h.2.1 k hk).1.elim (fun h1 => .inl ZO) fun h1 => (hF k h1).1, (h.2.1 k hk).2⟩, fun X hX k hk hk' => by
   rcases List.mem_append.1 hX with hX | hX
   ·exact h.2.2.1 X hX k hk hk'
   rcases (h.2.1 k hk).1 with h1 | h1
   ·have := hlt X hX k hk'
    omega
   exact (hF k h1).2 X hX hk', Sep.joins hB hF hlt hs h.2.2.2⟩
theorem St.transS {τ τ' : List As} (h : St w w.heap.size (fps τ) τ' w') : Z1C w w' τ τ' := fun w0 B M σ hw => by
 have hF : ∀ k, fps τ k → (B ≤ k ∨ M k) ∧ ∀ X ∈ σ, ¬ X.fp k := fun k hk => by
  obtain ⟨A, hA, hk⟩ := hk
  exact ⟨(hw.sep.lt (List.mem_append_left _ hA) k hk).1, fun X hX => hw.sep.cross A hA X hX k hk⟩
 have hlt : ∀ X ∈ σ, ∀ k, X.fp k → k < w.heap.size := fun X hX k hk => (hw.sep.lt (List.mem_append_right _ hX) k hk).2
 refine ⟨hw.ext.trans ⟨h.ext.os, h.ext.tape, h.ext.output, h.ext.size, fun k hk hm => h.ext.block k (by have := hw.base; omega) fun hf => ?_⟩, Nat.le_trans hw.base h.base, ?_⟩
 ·rcases (hF k hf).1 with h1 | h1
  ·omega
  exact hm h1
 exact Sep.joins hw.base hF hlt (hw.sep.right.keep h.ext.size fun X hX k hk => h.ext.block k (hlt X hX k hk) fun hf => (hF k hf).2 X hX hk) h.sep
end
end Go.Vc
