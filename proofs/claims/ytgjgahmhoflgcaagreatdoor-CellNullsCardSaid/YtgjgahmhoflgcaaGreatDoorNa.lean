/- nat's functions where nothing is too long -/
import Derived.Test.YtgjgahmhoflgcaaGreatDoorRf
set_option linter.unusedVariables false
set_option linter.unusedSimpArgs false
set_option maxRecDepth 10000
namespace Go.Proofs.YtgjgahmhoflgcaaGreatDoor.W
open Go.Vc Go.RowKit
theorem addS {a b : Value} {la lb : List Int} (hUa : U la) (hUb : U lb) (hLa : la.length ≤ 1099511627776) (hLb : lb.length ≤ 1099511627776) (h1 : Ma.blen (nv la) ≤ 8192) (h2 : Ma.blen (nv lb) ≤ 8192) (h3 : Ma.blen (nv la + nv lb) ≤ 8192) {w : World} (ha : IV w a (ints .u64 la)) (hb : IV w b (ints .u64 lb)) :
  Z0f P 240 [a, b] w fun r w' => ∃ v ls, r = .tuple #[v, .int .i64 0] ∧ Ma.Cn 18446744073709551616 ls (nv la + nv lb) ∧ Grow w w' [As.ri 24 .u64 v ls] := by
 refine (addN a b la lb hUa hUb hLa hLb w ha hb).mono ?_
 intro r w' h
 have hn : ¬ (8192 < Ma.blen (nv la) ∨ 8192 < Ma.blen (nv lb) ∨ 8192 < Ma.blen (nv la + nv lb)) := by omega
 rw [if_neg hn, if_neg hn] at h
 exact h
theorem mulS {a b : Value} {la lb : List Int} (hUa : U la) (hUb : U lb) (hLa : la.length ≤ 1099511627776) (hLb : lb.length ≤ 1099511627776) (h1 : Ma.blen (nv la) ≤ 8192) (h2 : Ma.blen (nv lb) ≤ 8192) (h3 : Ma.blen (nv la * nv lb) ≤ 8192) {w : World} (ha : IV w a (ints .u64 la)) (hb : IV w b (ints .u64 lb)) :
  Z0f P 242 [a, b] w fun r w' => ∃ v ls, r = .tuple #[v, .int .i64 0] ∧ Ma.Cn 18446744073709551616 ls (nv la * nv lb) ∧ Grow w w' [As.ri 24 .u64 v ls] := by
 refine (mulN a b la lb hUa hUb hLa hLb w ha hb).mono ?_
 intro r w' h
 have hn : ¬ (8192 < Ma.blen (nv la) ∨ 8192 < Ma.blen (nv lb) ∨ 8192 < Ma.blen (nv la * nv lb)) := by omega
 rw [if_neg hn, if_neg hn] at h
 exact h
theorem cnU {l : List Int} {n : Int} (h : Ma.Cn 18446744073709551616 l n) : U l := U.of_dg h.dg
theorem shlZ {a : Value} {la : List Int} {x : Int} {k : Nat} (hc : Ma.Cn 18446744073709551616 la x) (hx : 0 < x) (hL : la.length ≤ 68719476736) (hb : Ma.blen x + k ≤ 8192) {w : World} (ha : IV w a (ints .u64 la)) :
  Z0f P 249 [a, .int .i64 (k : Int)] w fun r w' => ∃ v ls, r = .tuple #[v, .int .i64 0] ∧ Ma.Cn 18446744073709551616 ls (x * 2 ^ k) ∧ Grow w w' [As.ri 24 .u64 v ls] := by
 refine (ShlN a la (cnU hc) hL k w ha).mono ?_
 intro r w' h
 have e : shlS (nv la) k = (0, x * 2 ^ k) := by
  unfold shlS
  rw [show nv la = x from hc.val, if_neg ZO, if_neg ZO, if_neg ZO, if_neg ZO, Int.toNat_natCast]
 rw [e] at h
 exact h
theorem shrZ {a : Value} {la : List Int} {x : Int} {k : Nat} (hc : Ma.Cn 18446744073709551616 la x) (hL : la.length ≤ 68719476736) (hb : Ma.blen x ≤ 8192) {w : World} (ha : IV w a (ints .u64 la)) :
  Z0f P 315 [a, .int .i64 (k : Int)] w fun r w' => ∃ v ls b, r = .tuple #[v, .bool b, .int .i64 0] ∧ Ma.Cn 18446744073709551616 ls (x / 2 ^ k) ∧ Grow w w' [As.ri 24 .u64 v ls] := by
 refine (ShrN a la (cnU hc) hL k w ha).mono ?_
 intro r w' h
 have e : shrS (nv la) k = (0, x / 2 ^ k, decide (¬ x % 2 ^ k = 0)) := by
  unfold shrS
  rw [show nv la = x from hc.val, if_neg ZO, if_neg ZO, Int.toNat_natCast]
 rw [e] at h
 obtain ⟨v, ls, h⟩ := h
 exact ⟨v, ls, _, h⟩
theorem divZ {a b : Value} {la lb : List Int} {x y : Int} (hc : Ma.Cn 18446744073709551616 la x) (hd : Ma.Cn 18446744073709551616 lb y) (hL : la.length ≤ 1073741824) (hM : lb.length ≤ 1073741824) (hx : Ma.blen x ≤ 8192) (hy : Ma.blen y ≤ 8192) (h0 : y ≠ 0) {w : World} (ha : IV w a (ints .u64 la)) (hb : IV w b (ints .u64 lb)) :
  Z0f P 252 [a, b] w fun r w' => ∃ vq vr lq lr, r = .tuple #[vq, vr, .int .i64 0] ∧ Ma.Cn 18446744073709551616 lq (x / y) ∧ Ma.Cn 18446744073709551616 lr (x % y) ∧ Grow w w' [As.ri 24 .u64 vq lq, As.ri 24 .u64 vr lr] := by
 refine (divModN a b la lb (cnU hc) (cnU hd) hL hM w ha hb).mono ?_
 intro r w' h
 have e : divS (nv la) (nv lb) = (0, x / y, x % y) := by
  unfold divS
  rw [show nv la = x from hc.val, show nv lb = y from hd.val, if_neg ZO, if_neg h0]
 rw [e] at h
 exact h
theorem lenV (v : Value) (l : List Int) (hU : U l) (hL : l.length ≤ 17592186044416) (w : World) (hv : IV w v (ints .u64 l)) : Z0f P 250 [v] w fun r w' => r = .int .i64 (Ma.blen (nv l)) ∧ w = w' := by
 obtain ⟨A, c, rfl, hc, hs⟩ := hv
 exact lenN A c l hU hL w ⟨A, c, rfl, hc, hs⟩
theorem lenZ {v : Value} {l : List Int} {n : Int} (h : Ma.Cn 18446744073709551616 l n) (hL : l.length ≤ 17592186044416) {w : World} (hv : IV w v (ints .u64 l)) : Z0f P 250 [v] w fun r w' => r = .int .i64 (Ma.blen n) ∧ w = w' := by
 rw [← h.val]
 exact lenV v l (cnU h) hL w hv
theorem cn_len2 {l : List Int} {n : Int} (h : Ma.Cn 18446744073709551616 l n) (hb : n < 340282366920938463463374607431768211456) : l.length ≤ 2 := by
 rcases Nat.lt_or_ge 2 l.length with h1 | h1
 ·exfalso
  have h2 := Ma.Tr.pos (show (0 : Int) < 18446744073709551616 by omega) h.dg h.tr (by intro e; subst e; simp at h1)
  have h3 := Ma.pow_mono (show (1 : Int) ≤ 18446744073709551616 by omega) (show 2 ≤ l.length - 1 by omega)
  rw [h.val] at h2
  have h4 : (18446744073709551616 : Int) ^ 2 = 340282366920938463463374607431768211456 := by decide
  omega
 exact h1
end Go.Proofs.YtgjgahmhoflgcaaGreatDoor.W
