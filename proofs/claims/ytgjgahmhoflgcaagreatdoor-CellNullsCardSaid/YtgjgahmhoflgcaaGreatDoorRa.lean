/- walks of the reference's numbers of base 65536 -/
import Derived.Test.YtgjgahmhoflgcaaGreatDoorFa
set_option linter.unusedVariables false
set_option linter.unusedSimpArgs false
set_option maxRecDepth 10000
namespace Go.Proofs.YtgjgahmhoflgcaaGreatDoor.W
open Go.Vc Go.RowKit
abbrev D16 (l : List Int) : Prop := Rg 0 65535 l
theorem D16.dg {l : List Int} (h : D16 l) : Ma.Dg 65536 l := fun x hx => by have := h x hx; omega
theorem D16.of_dg {l : List Int} (h : Ma.Dg 65536 l) : D16 l := fun x hx => by have := h x hx; omega
theorem D16.append {l m : List Int} (h : D16 l) (k : D16 m) : D16 (l ++ m) := fun y hy => (List.mem_append.1 hy).elim (h y) (k y)
theorem D16.one {x : Int} (h : 0 ≤ x ∧ x ≤ 65535) : D16 [x] := fun y hy => by rw [List.mem_singleton.1 hy]; exact h
theorem D16.snoc {l : List Int} (h : D16 l) {x : Int} (hx : 0 ≤ x ∧ x ≤ 65535) : D16 (l ++ [x]) := h.append (D16.one hx)
theorem D16.nil : D16 [] := fun _ h => by cases h
theorem D16.tr {l : List Int} (h : D16 l) : D16 (Ma.tr l) := D16.of_dg h.dg.tr
abbrev R16 (l : List Int) (n : Int) : Prop := Ma.Cn 65536 l n
theorem R16.d {l : List Int} {n : Int} (h : R16 l n) : D16 l := D16.of_dg h.dg
theorem p4 (k : Nat) : (65536 : Int) ^ (4 * k) = 18446744073709551616 ^ k := by rw [Int.pow_mul]; rfl
def word (l : List Int) (i k : Nat) : Int := Ma.vb 65536 ((l.drop (i + k)).take (4 - k))
def dig (r : Int) : UInt8 := UInt8.ofNat (48 + r.toNat)
theorem Z6D {r : Int} (h : 0 ≤ r ∧ r ≤ 9) : ((dig r).toNat : Int) = 48 + r := by
 have : (dig r).toNat = 48 + r.toNat := by
  unfold dig
  rw [UInt8.toNat_ofNat']
  omega
 omega
def dt0 (n : Nat) : List UInt8 := if h : n = 0 then [] else dt0 (n / 10) ++ [dig ((n % 10 : Nat) : Int)]
termination_by n
decreasing_by omega
theorem Z6a : dt0 0 = [] := by rw [dt0]; rfl
theorem Z5N {n : Int} (h : 0 < n) : dt0 n.toNat = dt0 (n / 10).toNat ++ [dig (n % 10)] := by
 rw [dt0, dif_neg (by omega)]
 rw [show n.toNat / 10 = (n / 10).toNat from by omega, show ((n.toNat % 10 : Nat) : Int) = n % 10 from by omega]
theorem dt0_ne {n : Int} (h : 0 < n) : dt0 n.toNat ≠ [] := by rw [Z5N h]; simp
def dtx (n : Int) : List UInt8 := if n = 0 then [48] else dt0 n.toNat
def pv (l : List UInt8) : Int := l.foldl (fun a b => 10 * a + ((b.toNat : Int) - 48)) 0
theorem pv_succ (l : List UInt8) {k : Nat} (h : k < l.length) : pv (l.take (k + 1)) = pv (l.take k) * 10 + (((l.getD k 0).toNat : Int) - 48) := by
 have e : l.take (k + 1) = l.take k ++ [l[k]] := by rw [List.take_succ_eq_append_getElem h]
 have e2 : l.getD k 0 = l[k] := by simp [List.getD, h]
 rw [e, e2, pv, List.foldl_append]
 show 10 * pv (l.take k) + _ = _
 omega
theorem isD.le {b : UInt8} (h : isD b) : 48 ≤ (b.toNat : Int) ∧ (b.toNat : Int) ≤ 57 := h
def Z6n (t : List UInt8) : Int × Int := if t = [] ∨ ¬ (∀ j, j < t.length → isD (t.getD j 0)) then (20, 0) else if 8192 < Ma.blen (pv t) then (21, 0) else (0, pv t)
theorem parsed_bad {t : List UInt8} (h : t = [] ∨ ∃ j, j < t.length ∧ ¬ isD (t.getD j 0)) : Z6n t = (20, 0) := if_pos (h.imp id fun ⟨j, hj, hd⟩ h => hd (h j hj))
theorem parsed_long {t : List UInt8} (h0 : t ≠ []) (h : ∀ j, j < t.length → isD (t.getD j 0)) (hl : 8192 < Ma.blen (pv t)) : Z6n t = (21, 0) := by
 unfold Z6n; rw [if_neg (fun h' => h'.elim h0 fun k => k h), if_pos hl]
theorem parsed_ok {t : List UInt8} (h0 : t ≠ []) (h : ∀ j, j < t.length → isD (t.getD j 0)) (hl : Ma.blen (pv t) ≤ 8192) : Z6n t = (0, pv t) := by
 unfold Z6n; rw [if_neg (fun h' => h'.elim h0 fun k => k h), if_neg (by omega)]
theorem R16.len {l : List Int} {n : Int} (h : R16 l n) {k : Nat} (hb : Ma.blen n ≤ k) : 16 * l.length ≤ k + 16 := by
 rcases Nat.eq_zero_or_pos l.length with h0 | h0
 ·omega
 have := Ma.blen_top (s := 16) h.dg h.tr h0
 rw [show ((2 : Int) ^ 16) = 65536 from rfl, h.val] at this
 have := Ma.blen_nonneg (l.getD (l.length - 1) 0)
 omega
theorem dt0_len : ∀ (k : Nat) (n : Int), 0 ≤ n → n.toNat ≤ k → ((dt0 n.toNat).length : Int) ≤ Ma.blen n
 | k, n, h, hk => by
  rcases Int.lt_or_eq_of_le h with h1 | h1
  ·rw [Z5N h1, List.length_append, Ma.blen_half h1]
   have hd : Ma.blen (n / 10) ≤ Ma.blen (n / 2) := Ma.blen_mono ZO ZO
   match k, hk with
   | 0, hk => omega
   | k + 1, hk =>
    have := dt0_len k (n / 10) ZO ZO
    simp only [List.length_cons, List.length_nil]
    omega
  subst h1
  have := Ma.blen_nonneg 0
  rw [show (0 : Int).toNat = 0 from rfl, Z6a]
  simpa using this
theorem R16.blen {l : List Int} {n : Int} (h : R16 l n) : Ma.blen n ≤ 16 * l.length := by
 have h1 := Ma.vb_lt (show (0 : Int) < 65536 by omega) h.dg
 rw [h.val, show (65536 : Int) = 2 ^ 16 from rfl, ← Int.pow_mul] at h1
 have := (Ma.blen_le_iff (h.nonneg ZO) (16 * l.length)).2 h1
 omega
theorem blen_ten {n d : Int} (h : 0 ≤ n) (hd : 0 ≤ d ∧ d ≤ 9) : Ma.blen (n * 10 + d) ≤ Ma.blen n + 4 := by
 obtain ⟨k, hk⟩ := Int.eq_ofNat_of_zero_le (Ma.blen_nonneg n)
 have h1 := (Ma.blen_le_iff h k).1 ZO
 have := (Ma.blen_le_iff (show 0 ≤ n * 10 + d by omega) (k + 4)).2 (by rw [Int.pow_add]; omega)
 omega
theorem R16.ten : R16 [10] 10 := ⟨fun x hx => by rw [List.mem_singleton.1 hx]; omega, ⟨fun _ => by omega, trivial⟩, by decide⟩
theorem U.one {x : Int} (h : 0 ≤ x ∧ x ≤ 18446744073709551615) : U [x] := fun y hy => by rw [List.mem_singleton.1 hy]; exact h
end Go.Proofs.YtgjgahmhoflgcaaGreatDoor.W
