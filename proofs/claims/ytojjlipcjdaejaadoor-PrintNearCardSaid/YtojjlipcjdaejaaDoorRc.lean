/- walks of the reference's told, Parse, Digits, Text -/
import Derived.Test.YtojjlipcjdaejaaDoorRb
import Derived.Test.YtojjlipcjdaejaaDoorVd
set_option linter.unusedVariables false
set_option linter.unusedSimpArgs false
set_option maxRecDepth 10000
namespace Go.Proofs.YtojjlipcjdaejaaDoor.W
open Go.Vc Go.RowKit
def dig (r : Int) : UInt8 := UInt8.ofNat (48 + r.toNat)
theorem dig_toNat {r : Int} (h : 0 ≤ r ∧ r ≤ 9) : ((dig r).toNat : Int) = 48 + r := by
 have : (dig r).toNat = 48 + r.toNat := by
  unfold dig
  rw [UInt8.toNat_ofNat']
  omega
 omega
def dt0 (n : Nat) : List UInt8 := if h : n = 0 then [] else dt0 (n / 10) ++ [dig ((n % 10 : Nat) : Int)]
termination_by n
decreasing_by omega
theorem dt0_zero : dt0 0 = [] := by rw [dt0]; rfl
theorem dt0_pos {n : Int} (h : 0 < n) : dt0 n.toNat = dt0 (n / 10).toNat ++ [dig (n % 10)] := by
 rw [dt0, dif_neg (by omega)]
 rw [show n.toNat / 10 = (n / 10).toNat from by omega, show ((n.toNat % 10 : Nat) : Int) = n % 10 from by omega]
theorem dt0_ne {n : Int} (h : 0 < n) : dt0 n.toNat ≠ [] := by rw [dt0_pos h]; simp
def dtx (n : Int) : List UInt8 := if n = 0 then [48] else dt0 n.toNat
theorem isD.le {b : UInt8} (h : isD b) : 48 ≤ (b.toNat : Int) ∧ (b.toNat : Int) ≤ 57 := h
theorem R16.len {l : List Int} {n : Int} (h : R16 l n) {k : Nat} (hb : Ma.blen n ≤ k) : 16 * l.length ≤ k + 16 := by
 rcases Nat.eq_zero_or_pos l.length with h0 | h0
 ·omega
 ·have := Ma.blen_top (s := 16) h.dg h.tr h0
  rw [show ((2 : Int) ^ 16) = 65536 from rfl, h.val] at this
  have := Ma.blen_nonneg (l.getD (l.length - 1) 0)
  omega
theorem dt0_len : ∀ (k : Nat) (n : Int), 0 ≤ n → n.toNat ≤ k → ((dt0 n.toNat).length : Int) ≤ Ma.blen n
 | k, n, h, hk => by
  rcases Int.lt_or_eq_of_le h with h1 | h1
  ·rw [dt0_pos h1, List.length_append, Ma.blen_half h1]
   have hd : Ma.blen (n / 10) ≤ Ma.blen (n / 2) := Ma.blen_mono (by omega) (by omega)
   match k, hk with
   | 0, hk => omega
   | k + 1, hk =>
    have := dt0_len k (n / 10) (by omega) (by omega)
    simp only [List.length_cons, List.length_nil]
    omega
  ·subst h1
   have := Ma.blen_nonneg 0
   rw [show (0 : Int).toNat = 0 from rfl, dt0_zero]
   simpa using this
theorem R16.blen {l : List Int} {n : Int} (h : R16 l n) : Ma.blen n ≤ 16 * l.length := by
 have h1 := Ma.vb_lt (show (0 : Int) < 65536 by omega) h.dg
 rw [h.val, show (65536 : Int) = 2 ^ 16 from rfl, ← Int.pow_mul] at h1
 have := (Ma.blen_le_iff (h.nonneg (by omega)) (16 * l.length)).2 h1
 omega
theorem R16.len_num {l ls : List Int} (hU : U l) (h : R16 ls (nv l)) : ls.length ≤ 4 * l.length + 1 := by
 have h1 : nv l < _ := Ma.vb_lt (show (0 : Int) < 18446744073709551616 by omega) hU.dg
 rw [← p4] at h1
 rcases Nat.eq_zero_or_pos ls.length with h0 | h0
 ·omega
 ·have h2 := Ma.Tr.pos (show (0 : Int) < 65536 by omega) h.dg h.tr (by intro e; subst e; simp at h0)
  rw [h.val] at h2
  rcases Nat.lt_or_ge (4 * l.length) (ls.length - 1) with h3 | h3
  ·have := Ma.pow_mono (show (1 : Int) ≤ 65536 by omega) (show 4 * l.length ≤ ls.length - 1 by omega)
   omega
  ·omega
theorem R16.ten : R16 [10] 10 := ⟨fun x hx => by rw [List.mem_singleton.1 hx]; omega, ⟨fun _ => by omega, trivial⟩, by decide⟩
theorem U.one {x : Int} (h : 0 ≤ x ∧ x ≤ 18446744073709551615) : U [x] := fun y hy => by rw [List.mem_singleton.1 hy]; exact h
end Go.Proofs.YtojjlipcjdaejaaDoor.W
