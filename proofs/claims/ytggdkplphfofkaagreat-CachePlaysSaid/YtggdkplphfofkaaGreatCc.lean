/- the cache as rows; Once.Do over them -/
import Derived.Test.YtggdkplphfofkaaGreatCb
set_option linter.unusedVariables false
set_option linter.unusedSimpArgs false
set_option maxRecDepth 10000
namespace Go.Proofs.YtggdkplphfofkaaGreat.W
open Go.Vc Go.RowKit
abbrev Cac := List (Option (Nat × Value))
def pieceC (x : Option (Nat × Value)) : List Value := match x with
 | none => [.int .u32 0, .int .i32 0, .int .u32 0, .int .i64 0, .pointer none]
 | some y => [.int .u32 1, .int .i32 0, .int .u32 0, .int .i64 1, .pointer (some ⟨y.1, 0, none⟩)]
def cacC (L : Cac) : List Value := (L.map pieceC).flatten
theorem pieceC_rows (L : Cac) : Rows_ 5 (L.map pieceC) := fun r hr => by
 obtain ⟨x, _, rfl⟩ := List.mem_map.1 hr
 cases x <;> exact ⟨rfl, by simp [pieceC, Value.oneCell']⟩
theorem cacC_at {L : Cac} {s : Nat} {x : Option (Nat × Value)} (h : L[s]? = some x) (i : Nat) (hi : i < 5) : (cacC L)[s * 5 + i]? = (pieceC x)[i]? :=
 (pieceC_rows L).at s (pieceC x) (by simp [h]) i hi
theorem cacC_len (L : Cac) : (cacC L).length = L.length * 5 := by
 unfold cacC
 rw [(pieceC_rows L).len, List.length_map]
theorem cacC_set {L : Cac} {s p : Nat} {v : Value} (h : L[s]? = some none) :
  cacC (L.set s (some (p, v))) = (((((cacC L).set (s * 5 + 1) (.int .i32 1)).set (s * 5 + 3) (.int .i64 1)).set (s * 5 + 4) (.pointer (some ⟨p, 0, none⟩))).set (s * 5) (.int .u32 1)).set (s * 5 + 1) (.int .i32 0) := by
 have hs : s < L.length := (List.getElem?_eq_some_iff.1 h).1
 have hlen := cacC_len L
 apply List.ext_getElem?
 intro j
 rcases Nat.lt_or_ge j (L.length * 5) with hj | hj
 ·obtain ⟨t, i, hi, rfl⟩ : ∃ t i, i < 5 ∧ j = t * 5 + i := ⟨j / 5, j % 5, by omega, by omega⟩
  have ht : t < L.length := by omega
  by_cases e : t = s
  ·subst e
   rw [cacC_at (x := some (p, v)) (by simp [hs]) i hi]
   have h5 := cacC_at h i hi
   simp only [List.getElem?_set, List.length_set]
   have : i = 0 ∨ i = 1 ∨ i = 2 ∨ i = 3 ∨ i = 4 := by omega
   rcases this with rfl | rfl | rfl | rfl | rfl <;> simp [pieceC, hlen] at h5 ⊢ <;> first | omega | (rw [h5]; done) | skip
  ·obtain ⟨x, hx⟩ : ∃ x, L[t]? = some x := ⟨L[t], by simp [ht]⟩
   rw [cacC_at (x := x) (by rw [List.getElem?_set_ne (by omega)]; exact hx) i hi]
   rw [List.getElem?_set_ne (by omega), List.getElem?_set_ne (by omega), List.getElem?_set_ne (by omega), List.getElem?_set_ne (by omega), List.getElem?_set_ne (by omega), cacC_at hx i hi]
 ·rw [List.getElem?_eq_none (by rw [cacC_len, List.length_set]; omega), List.getElem?_eq_none (by simp only [List.length_set]; omega)]
def inR1 (s : Nat) (x : Option (Nat × Value)) : List As := match x with
 | none => []
 | some y => [As.blk y.1 81 [y.2], As.rk 87 3 y.2 (entR s)]
def inR (L : Cac) : List As := (L.mapIdx inR1).flatten
theorem inR_mem {L : Cac} {A : As} : A ∈ inR L ↔ ∃ s x, L[s]? = some x ∧ A ∈ inR1 s x := by
 unfold inR
 rw [List.mem_flatten]
 constructor
 ·rintro ⟨l, hl, hA⟩
  obtain ⟨s, hs, rfl⟩ := List.mem_iff_getElem.1 hl
  rw [List.length_mapIdx] at hs
  exact ⟨s, L[s], by simp [hs], by simpa using hA⟩
 ·rintro ⟨s, x, hx, hA⟩
  obtain ⟨hs, rfl⟩ := List.getElem?_eq_some_iff.1 hx
  exact ⟨_, List.mem_iff_getElem.2 ⟨s, by simpa using hs, by simp⟩, hA⟩
theorem inR_set {L : Cac} {s p : Nat} {v : Value} (h : L[s]? = some none) (A : As) : A ∈ inR (L.set s (some (p, v))) ↔ A ∈ inR L ++ [As.blk p 81 [v]] ++ [As.rk 87 3 v (entR s)] := by
 have hs : s < L.length := (List.getElem?_eq_some_iff.1 h).1
 rw [inR_mem]
 simp only [List.mem_append, List.mem_singleton, inR_mem]
 constructor
 ·rintro ⟨t, x, hx, hA⟩
  by_cases e : t = s
  ·subst e
   obtain rfl : some (p, v) = x := by simpa [hs] using hx
   simp only [inR1, List.mem_cons, List.not_mem_nil, or_false] at hA
   rcases hA with h1 | h1
   ·exact .inl (.inr h1)
   ·exact .inr h1
  ·rw [List.getElem?_set_ne (by omega)] at hx
   exact .inl (.inl ⟨t, x, hx, hA⟩)
 ·rintro ((⟨t, x, hx, hA⟩ | h1) | h1)
  ·by_cases e : t = s
   ·subst e
    obtain rfl : none = x := by rw [h] at hx; exact Option.some.inj hx
    simp [inR1] at hA
   ·exact ⟨t, x, by rw [List.getElem?_set_ne (by omega)]; exact hx, hA⟩
  ·exact ⟨s, some (p, v), by simp [hs], by simp [inR1, h1]⟩
  ·exact ⟨s, some (p, v), by simp [hs], by simp [inR1, h1]⟩
def CacS (L : Cac) (s : Nat) (L' : Cac) (p : Nat) (v : Value) : Prop := L'[s]? = some (some (p, v)) ∧ (L' = L ∨ (L[s]? = some none ∧ L' = L.set s (some (p, v))))
theorem CacS.len {L L' : Cac} {s p : Nat} {v : Value} (h : CacS L s L' p v) : L'.length = L.length := by
 rcases h.2 with rfl | ⟨_, rfl⟩
 ·rfl
 ·simp
abbrev dcR (kp ks b s : Nat) (L : Cac) : List As := [As.blk kp 95 [.pointer (some ⟨b, s * 5, none⟩)], As.blk ks 3 [.int .i64 (s : Int)], As.blk b 64 (cacC L), As.many (inR L)]
theorem doC (L : Cac) (hL : L.length = 41) (s : Nat) (hs : s < 41) (kp ks b : Nat) (w : World) (hS : Sep w.heap.size (fps (dcR kp ks b s L)) w (dcR kp ks b s L)) :
  CallsV P 31 [.pointer (some ⟨b, s * 5, none⟩), .func (.func 32) #[] #[.pointer (some ⟨kp, 0, none⟩), .pointer (some ⟨ks, 0, none⟩)]] w fun r w' => r = .tuple #[] ∧ ∃ L' p v, CacS L s L' p v ∧ Trans w w' (dcR kp ks b s L) (dcR kp ks b s L') := by
 obtain ⟨x, hx⟩ : ∃ x, L[s]? = some x := ⟨L[s], by simp [hL, hs]⟩
 have hw : St w w.heap.size (fps (dcR kp ks b s L)) (dcR kp ks b s L) w := St.startS hS
 have hbk : (As.blk b 64 (cacC L)).ok w := hw.ok (.tail _ (.tail _ (.head _)))
 have c0 := cacC_at hx 0 (by omega)
 have c1 := cacC_at hx 1 (by omega)
 have c3 := cacC_at hx 3 (by omega)
 have c4 := cacC_at hx 4 (by omega)
 rw [Nat.add_zero] at c0
 rcases x with _ | ⟨p, v⟩
 ·-- built now
  have hl := cacC_len L
  have hb0 := blk_cell hbk (show (cacC L)[s * 5]? = some (.int .u32 0) from c0)
  have hb1 := blk_cell hbk (show (cacC L)[s * 5 + 1]? = some (.int .i32 0) from c1)
  let cs1 := (cacC L).set (s * 5 + 1) (.int .i32 1)
  have turn : ∀ (w0 : World) (B : Nat) (M : Nat → Prop) (σ : List As), St w0 B M (dcR kp ks b s L ++ σ) w → St w0 B M ([As.blk kp 95 [.pointer (some ⟨b, s * 5, none⟩)], As.blk ks 3 [.int .i64 (s : Int)], As.blk b 64 cs1] ++ (As.many (inR L) :: σ)) (w.setCell ⟨b, s * 5 + 1, none⟩ (.int .i32 1)) := fun w0 B M σ h =>
   St_setc h (.tail (.tail .head))
  have hw1 := turn _ _ _ [] (by simpa using hw)
  have hc3 : cs1[s * 5 + 3]? = some (.int .i64 0) := by
   show ((cacC L).set (s * 5 + 1) (.int .i32 1))[s * 5 + 3]? = _
   rw [List.getElem?_set_ne (by omega)]
   exact c3
  have hc4 : cs1[s * 5 + 4]? = some (.pointer none) := by
   show ((cacC L).set (s * 5 + 1) (.int .i32 1))[s * 5 + 4]? = _
   rw [List.getElem?_set_ne (by omega)]
   exact c4
  have hclo := closC kp ks b (s * 5) (s : Int) cs1 (by omega) hc3 hc4 _ (St.rows hw1)
  refine Calls.mono (syDo1 b (s * 5) #[.pointer (some ⟨kp, 0, none⟩), .pointer (some ⟨ks, 0, none⟩)] (fun w2 => ∃ rb v, Trans (w.setCell ⟨b, s * 5 + 1, none⟩ (.int .i32 1)) w2 [As.blk kp 95 [.pointer (some ⟨b, s * 5, none⟩)], As.blk ks 3 [.int .i64 (s : Int)], As.blk b 64 cs1] [As.blk kp 95 [.pointer (some ⟨b, s * 5, none⟩)], As.blk ks 3 [.int .i64 (s : Int)], As.blk b 64 ((cs1.set (s * 5 + 3) (.int .i64 1)).set (s * 5 + 4) (.pointer (some ⟨rb, 0, none⟩))), As.blk rb 81 [v], As.rk 87 3 v (entR s)]) w hb0.1 hb1.1 hb1.2 (Calls.mono hclo fun e w2 he => ?_) ?_) fun e w' he => ?_
  ·obtain ⟨_, rfl, rb, v, rfl, hT⟩ := he
   exact ⟨rfl, rb, v, hT⟩
  ·rintro w2 ⟨rb, v, hT⟩
   have hw2 := hT _ _ _ _ hw1
   have hk := hw2.ok (.tail _ (.tail _ (.head _)))
   have k0 := blk_cell hk (o := s * 5) (v := .int .u32 0) (by
    rw [List.getElem?_set_ne (by omega), List.getElem?_set_ne (by omega)]
    show ((cacC L).set (s * 5 + 1) (.int .i32 1))[s * 5]? = _
    rw [List.getElem?_set_ne (by omega)]
    exact c0)
   have k1 := blk_cell hk (o := s * 5 + 1) (v := .int .i32 1) (by
    rw [List.getElem?_set_ne (by omega), List.getElem?_set_ne (by omega)]
    show ((cacC L).set (s * 5 + 1) (.int .i32 1))[s * 5 + 1]? = _
    rw [List.getElem?_set_self (by omega)])
   exact ⟨k0.1, k1.1, k0.2, k1.2⟩
  ·obtain ⟨rfl, w2, ⟨rb, v, hT⟩, rfl⟩ := he
   refine ⟨_, rfl, rfl, L.set s (some (rb, v)), rb, v, ⟨by simp [hL, hs], .inr ⟨hx, rfl⟩⟩, fun w0 B M σ h => ?_⟩
   have h2 := hT _ _ _ _ (turn _ _ _ _ h)
   have h3 := St_setc (o := s * 5) (x := .int .u32 1) h2.drewn (.tail (.tail .head))
   have h4 := St_setc (o := s * 5 + 1) (x := .int .i32 0) h3 (.tail (.tail .head))
   have h5 := St.frontL (l := [_, _, _, _, _]) h4
   have h6 := many_in (St.frontL (l := [_, _, _, _]) h5)
   have h7 := many_in (St.frontL (l := [_, _, _, _]) h6)
   have h8 := many_iff h7 (τ' := inR (L.set s (some (rb, v)))) (inR_set hx)
   have h9 := St.frontL (l := [_, _, _]) h8
   have h10 := St.frontL (l := [_, _, _]) h9
   have h11 := St.frontL (l := [_, _, _]) h10
   unfold dcR
   rw [cacC_set hx]
   exact h11
 ·have hb0 := blk_cell hbk (show (cacC L)[s * 5]? = some (.int .u32 1) from c0)
  refine Calls.mono (syDo2 ⟨b, s * 5, none⟩ _ w hb0.1) fun e w' he => ?_
  obtain ⟨rfl, rfl⟩ := he
  exact ⟨_, rfl, rfl, L, p, v, ⟨hx, .inl rfl⟩, fun w0 B M σ h => h⟩
end Go.Proofs.YtggdkplphfofkaaGreat.W
