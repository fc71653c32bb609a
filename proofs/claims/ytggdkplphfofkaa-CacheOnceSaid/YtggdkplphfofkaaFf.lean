/- walk of nat.Parse -/
import Derived.Test.YtggdkplphfofkaaFe
import Derived.Test.YtggdkplphfofkaaRc
set_option linter.unusedVariables false
set_option linter.unusedSimpArgs false
set_option maxRecDepth 10000
namespace Go.Proofs.Ytggdkplphfofkaa.W
open Go.Vc Go.RowKit

theorem pv_snoc (a : List UInt8) (x : UInt8) : pv (a ++ [x]) = 10 * pv a + ((x.toNat : Int) - 48) := by rw [pv, List.foldl_append]; rfl
theorem pv_append (a : List UInt8) : ∀ (n : Nat) (b : List UInt8), b.length = n → pv (a ++ b) = pv a * 10 ^ n + pv b
  | 0, b, h => by
    obtain rfl := List.eq_nil_of_length_eq_zero h
    simp [pv]
  | n + 1, b, h => by
    have hne : b ≠ [] := by intro e; subst e; simp at h
    have e := List.dropLast_concat_getLast hne
    have ih := pv_append a n b.dropLast (by simp [h])
    rw [← e, ← List.append_assoc, pv_snoc, pv_snoc, ih, Int.pow_succ, ← Int.mul_assoc]
    omega
theorem pv_bounds : ∀ (n : Nat) (b : List UInt8), b.length = n → (∀ x ∈ b, isD x) → 0 ≤ pv b ∧ pv b < 10 ^ n
  | 0, b, h, _ => by
    obtain rfl := List.eq_nil_of_length_eq_zero h
    simp [pv]
  | n + 1, b, h, hd => by
    have hne : b ≠ [] := by intro e; subst e; simp at h
    have e := List.dropLast_concat_getLast hne
    have ih := pv_bounds n b.dropLast (by simp [h]) (fun x hx => hd x ((List.dropLast_sublist b).subset hx))
    have hl := (hd _ (List.getLast_mem hne)).le
    rw [← e, pv_snoc, Int.pow_succ]
    omega
theorem isD_mem {t : List UInt8} (h : ∀ j, j < t.length → isD (t.getD j 0)) : ∀ x ∈ t, isD x := fun x hx => by
  obtain ⟨j, hj, rfl⟩ := List.getElem_of_mem hx
  have := h j hj
  simpa [List.getD, hj] using this
theorem pv_lead {t : List UInt8} (h : ∀ x ∈ t, isD x) (hn : 0 < t.length) (h0 : ((t.getD 0 0).toNat : Int) ≠ 48) : 10 ^ (t.length - 1) ≤ pv t := by
  match t, hn with
  | x :: l, _ =>
    have e := pv_append [x] l.length l rfl
    have hx := (h x (.head _)).le
    have hl := (pv_bounds l.length l rfl (fun y hy => h y (.tail _ hy))).1
    have hp := Ma.pow_pos (show (0 : Int) < 10 by omega) l.length
    have h1 : pv [x] = (x.toNat : Int) - 48 := by simp [pv]
    have h0' : (x.toNat : Int) ≠ 48 := h0
    have h2 : 1 * (10 : Int) ^ l.length ≤ pv [x] * 10 ^ l.length := Int.mul_le_mul_of_nonneg_right (by omega) (Int.le_of_lt hp)
    show 10 ^ l.length ≤ pv ([x] ++ l)
    omega
set_option exponentiation.threshold 10000 in
theorem big10 : (2 : Int) ^ 8192 ≤ 10 ^ 2467 := by
  have : (2 : Nat) ^ 8192 ≤ 10 ^ 2467 := by decide +kernel
  exact_mod_cast this
theorem pv_split (t : List UInt8) (z : Nat) (hz : z ≤ t.length) (n : Nat) (hn : z + n ≤ t.length) : pv (t.take (z + n)) = pv (t.take z) * 10 ^ n + pv ((t.drop z).take n) := by
  rw [List.take_add]
  exact pv_append _ n _ (by rw [List.length_take, List.length_drop]; omega)
theorem getD_drop {t : List UInt8} (z k : Nat) : (t.drop z).getD k 0 = t.getD (z + k) 0 := by simp [List.getD, List.getElem?_drop]
theorem ten19 : (10 : Int) ^ 19 = 10000000000000000000 := by decide

end Go.Proofs.Ytggdkplphfofkaa.W
