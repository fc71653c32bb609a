/- walks of the reference's told, Parse, Digits, Text -/
import Derived.Test.YtggdkplphfofkaaRb
import Derived.Test.YtggdkplphfofkaaVd
set_option linter.unusedVariables false
set_option linter.unusedSimpArgs false
set_option maxRecDepth 10000
namespace Go.Proofs.Ytggdkplphfofkaa.W
open Go.Vc Go.RowKit

/-- the byte of a digit -/
def dig (r : Int) : UInt8 := UInt8.ofNat (48 + r.toNat)
theorem dig_toNat {r : Int} (h : 0 ≤ r ∧ r ≤ 9) : ((dig r).toNat : Int) = 48 + r := by
  have : (dig r).toNat = 48 + r.toNat := by
    unfold dig
    rw [UInt8.toNat_ofNat']
    omega
  omega
/-- the digits of a number; none of 0 -/
def dt0 (n : Nat) : List UInt8 := if h : n = 0 then [] else dt0 (n / 10) ++ [dig ((n % 10 : Nat) : Int)]
termination_by n
decreasing_by omega
theorem dt0_zero : dt0 0 = [] := by rw [dt0]; rfl
theorem dt0_pos {n : Int} (h : 0 < n) : dt0 n.toNat = dt0 (n / 10).toNat ++ [dig (n % 10)] := by
  rw [dt0, dif_neg (by omega)]
  rw [show n.toNat / 10 = (n / 10).toNat from by omega, show ((n.toNat % 10 : Nat) : Int) = n % 10 from by omega]
theorem dt0_ne {n : Int} (h : 0 < n) : dt0 n.toNat ≠ [] := by rw [dt0_pos h]; simp
/-- a number's text -/
def dtx (n : Int) : List UInt8 := if n = 0 then [48] else dt0 n.toNat
/-- what digits say -/
def pv (l : List UInt8) : Int := l.foldl (fun a b => 10 * a + ((b.toNat : Int) - 48)) 0
theorem pv_succ (l : List UInt8) {k : Nat} (h : k < l.length) : pv (l.take (k + 1)) = pv (l.take k) * 10 + (((l.getD k 0).toNat : Int) - 48) := by
  have e : l.take (k + 1) = l.take k ++ [l[k]] := by rw [List.take_succ_eq_append_getElem h]
  have e2 : l.getD k 0 = l[k] := by simp [List.getD, h]
  rw [e, e2, pv, List.foldl_append]
  show 10 * pv (l.take k) + _ = _
  omega
theorem isD.le {b : UInt8} (h : isD b) : 48 ≤ (b.toNat : Int) ∧ (b.toNat : Int) ≤ 57 := h
theorem pv_nonneg_take {l : List UInt8} (h : ∀ j, j < l.length → isD (l.getD j 0)) : ∀ k, k ≤ l.length → 0 ≤ pv (l.take k)
  | 0, _ => by simp [pv]
  | k + 1, hk => by
    have := pv_nonneg_take h k (by omega)
    rw [pv_succ l (by omega)]
    have := (h k (by omega)).le
    omega
theorem pv_mono {l : List UInt8} (h : ∀ j, j < l.length → isD (l.getD j 0)) (k : Nat) : ∀ m, k + m ≤ l.length → pv (l.take k) ≤ pv (l.take (k + m))
  | 0, _ => Int.le_refl _
  | m + 1, hm => by
    have h1 := pv_mono h k m (by omega)
    have h2 := pv_nonneg_take h (k + m) (by omega)
    rw [← Nat.add_assoc, pv_succ l (by omega)]
    have := (h (k + m) (by omega)).le
    omega
/-- what a text is read as: an error's number, and the number -/
def parsed (t : List UInt8) : Int × Int := if t = [] ∨ ¬ (∀ j, j < t.length → isD (t.getD j 0)) then (20, 0) else if 8192 < Ma.blen (pv t) then (21, 0) else (0, pv t)
theorem parsed_bad {t : List UInt8} (h : t = [] ∨ ∃ j, j < t.length ∧ ¬ isD (t.getD j 0)) : parsed t = (20, 0) := if_pos (h.imp id fun ⟨j, hj, hd⟩ h => hd (h j hj))
theorem parsed_long {t : List UInt8} (h0 : t ≠ []) (h : ∀ j, j < t.length → isD (t.getD j 0)) (hl : 8192 < Ma.blen (pv t)) : parsed t = (21, 0) := by
  unfold parsed; rw [if_neg (fun h' => h'.elim h0 fun k => k h), if_pos hl]
theorem parsed_ok {t : List UInt8} (h0 : t ≠ []) (h : ∀ j, j < t.length → isD (t.getD j 0)) (hl : Ma.blen (pv t) ≤ 8192) : parsed t = (0, pv t) := by
  unfold parsed; rw [if_neg (fun h' => h'.elim h0 fun k => k h), if_neg (by omega)]
theorem R16.len {l : List Int} {n : Int} (h : R16 l n) {k : Nat} (hb : Ma.blen n ≤ k) : 16 * l.length ≤ k + 16 := by
  rcases Nat.eq_zero_or_pos l.length with h0 | h0
  · omega
  · have := Ma.blen_top (s := 16) h.dg h.tr h0
    rw [show ((2 : Int) ^ 16) = 65536 from rfl, h.val] at this
    have := Ma.blen_nonneg (l.getD (l.length - 1) 0)
    omega
theorem dt0_len : ∀ (k : Nat) (n : Int), 0 ≤ n → n.toNat ≤ k → ((dt0 n.toNat).length : Int) ≤ Ma.blen n
  | k, n, h, hk => by
    rcases Int.lt_or_eq_of_le h with h1 | h1
    · rw [dt0_pos h1, List.length_append, Ma.blen_half h1]
      have hd : Ma.blen (n / 10) ≤ Ma.blen (n / 2) := Ma.blen_mono (by omega) (by omega)
      match k, hk with
      | 0, hk => omega
      | k + 1, hk =>
        have := dt0_len k (n / 10) (by omega) (by omega)
        simp only [List.length_cons, List.length_nil]
        omega
    · subst h1
      have := Ma.blen_nonneg 0
      rw [show (0 : Int).toNat = 0 from rfl, dt0_zero]
      simpa using this
theorem R16.blen {l : List Int} {n : Int} (h : R16 l n) : Ma.blen n ≤ 16 * l.length := by
  have h1 := Ma.vb_lt (show (0 : Int) < 65536 by omega) h.dg
  rw [h.val, show (65536 : Int) = 2 ^ 16 from rfl, ← Int.pow_mul] at h1
  have := (Ma.blen_le_iff (h.nonneg (by omega)) (16 * l.length)).2 h1
  omega
theorem blen_ten {n d : Int} (h : 0 ≤ n) (hd : 0 ≤ d ∧ d ≤ 9) : Ma.blen (n * 10 + d) ≤ Ma.blen n + 4 := by
  obtain ⟨k, hk⟩ := Int.eq_ofNat_of_zero_le (Ma.blen_nonneg n)
  have h1 := (Ma.blen_le_iff h k).1 (by omega)
  have := (Ma.blen_le_iff (show 0 ≤ n * 10 + d by omega) (k + 4)).2 (by rw [Int.pow_add]; omega)
  omega
theorem blen_ten0 {n : Int} (h : 0 ≤ n) : Ma.blen (n * 10) ≤ Ma.blen n + 4 := by simpa using blen_ten h (d := 0) (by omega)
theorem R16.len_num {l ls : List Int} (hU : U l) (h : R16 ls (nv l)) : ls.length ≤ 4 * l.length + 1 := by
  have h1 : nv l < _ := Ma.vb_lt (show (0 : Int) < 18446744073709551616 by omega) hU.dg
  rw [← p4] at h1
  rcases Nat.eq_zero_or_pos ls.length with h0 | h0
  · omega
  · have h2 := Ma.Tr.pos (show (0 : Int) < 65536 by omega) h.dg h.tr (by intro e; subst e; simp at h0)
    rw [h.val] at h2
    rcases Nat.lt_or_ge (4 * l.length) (ls.length - 1) with h3 | h3
    · have := Ma.pow_mono (show (1 : Int) ≤ 65536 by omega) (show 4 * l.length ≤ ls.length - 1 by omega)
      omega
    · omega
theorem R16.ten : R16 [10] 10 := ⟨fun x hx => by rw [List.mem_singleton.1 hx]; omega, ⟨fun _ => by omega, trivial⟩, by decide⟩
theorem U.one {x : Int} (h : 0 ≤ x ∧ x ≤ 18446744073709551615) : U [x] := fun y hy => by rw [List.mem_singleton.1 hy]; exact h

end Go.Proofs.Ytggdkplphfofkaa.W
