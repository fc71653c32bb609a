/- Plain facts on numbers written as rows of digits, the least first; no program in sight. -/
set_option linter.unusedVariables false
set_option linter.unusedSimpArgs false
namespace Go.Ma
def vb (B : Int) : List Int → Int
 | [] => 0
 | x :: l => x + B * vb B l
def Tr : List Int → Prop
 | [] => True
 | x :: l => (l = [] → x ≠ 0) ∧ Tr l
def Dg (B : Int) (l : List Int) : Prop := ∀ x ∈ l, 0 ≤ x ∧ x < B
def tr : List Int → List Int
 | [] => []
 | x :: l => if tr l = [] then (if x = 0 then [] else [x]) else x :: tr l
theorem Dg.nil (B : Int) : Dg B [] := fun _ h => by cases h
theorem Dg.head {B x : Int} {l : List Int} (h : Dg B (x :: l)) : 0 ≤ x ∧ x < B := h x (.head _)
theorem Dg.tail {B x : Int} {l : List Int} (h : Dg B (x :: l)) : Dg B l := fun y hy => h y (.tail _ hy)
theorem Dg.cons {B x : Int} {l : List Int} (hx : 0 ≤ x ∧ x < B) (h : Dg B l) : Dg B (x :: l) := fun y hy => by
 cases hy with
 | head => exact hx
 | tail _ hy => exact h y hy
theorem Dg.append {B : Int} {l m : List Int} (h : Dg B l) (k : Dg B m) : Dg B (l ++ m) := fun y hy => (List.mem_append.1 hy).elim (h y) (k y)
theorem Dg.take {B : Int} {l : List Int} (h : Dg B l) (n : Nat) : Dg B (l.take n) := fun y hy => h y (List.mem_of_mem_take hy)
theorem Dg.drop {B : Int} {l : List Int} (h : Dg B l) (n : Nat) : Dg B (l.drop n) := fun y hy => h y (List.mem_of_mem_drop hy)
theorem Dg.set {B x : Int} {l : List Int} (h : Dg B l) (hx : 0 ≤ x ∧ x < B) (n : Nat) : Dg B (l.set n x) := fun y hy => (List.mem_or_eq_of_mem_set hy).elim (h y) (fun e => e ▸ hx)
theorem Dg.replicate {B x : Int} (hx : 0 ≤ x ∧ x < B) (n : Nat) : Dg B (List.replicate n x) := fun y hy => by
 rw [List.eq_of_mem_replicate hy]; exact hx
theorem vb_nonneg {B : Int} (hB : 0 < B) : ∀ {l : List Int}, Dg B l → 0 ≤ vb B l
 | [], _ => by simp [vb]
 | x :: l, h => by
  have := vb_nonneg hB h.tail
  have := Int.mul_nonneg (Int.le_of_lt hB) this
  have := h.head
  simp only [vb]; omega
theorem vb_append (B : Int) : ∀ (l m : List Int), vb B (l ++ m) = vb B l + B ^ l.length * vb B m
 | [], m => by simp [vb]
 | x :: l, m => by
  simp only [List.cons_append, vb, vb_append B l m, List.length_cons, Int.pow_succ, Int.mul_add]
  rw [Int.mul_comm (B ^ l.length) B, Int.mul_assoc]; omega
theorem pow_pos {B : Int} (hB : 0 < B) : ∀ n : Nat, 0 < B ^ n
 | 0 => by simp
 | n + 1 => by rw [Int.pow_succ]; exact Int.mul_pos (pow_pos hB n) hB
theorem pow_mono {B : Int} (hB : 1 ≤ B) {m n : Nat} (h : m ≤ n) : B ^ m ≤ B ^ n := by
 obtain ⟨k, rfl⟩ : ∃ k, n = m + k := ⟨n - m, by omega⟩
 rw [Int.pow_add]
 have h1 := pow_pos (show 0 < B by omega) m
 have h2 : 1 ≤ B ^ k := pow_pos (show 0 < B by omega) k
 have := Int.mul_le_mul_of_nonneg_left h2 (Int.le_of_lt h1)
 omega
theorem vb_lt {B : Int} (hB : 0 < B) : ∀ {l : List Int}, Dg B l → vb B l < B ^ l.length
 | [], _ => by simp [vb]
 | x :: l, h => by
  have h1 := vb_lt hB h.tail
  have h2 := h.head
  have h3 : B * (vb B l + 1) ≤ B * B ^ l.length := Int.mul_le_mul_of_nonneg_left (by omega) (Int.le_of_lt hB)
  rw [Int.mul_add] at h3
  simp only [vb, List.length_cons, Int.pow_succ]
  rw [Int.mul_comm (B ^ l.length) B]
  omega
theorem vb_zeros (B : Int) (n : Nat) : vb B (List.replicate n 0) = 0 := by
 induction n with
 | zero => rfl
 | succ n ih => simp [List.replicate_succ, vb, ih]
theorem tr_val (B : Int) : ∀ l : List Int, vb B (tr l) = vb B l
 | [] => rfl
 | x :: l => by
  have ih := tr_val B l
  simp only [tr]
  split
  ·rename_i h
   rw [h] at ih
   split
   ·rename_i hx; simp only [vb] at ih ⊢; rw [← ih, hx]; simp
   simp only [vb] at ih ⊢; rw [← ih]
  simp only [vb, ih]
theorem tr_Tr : ∀ l : List Int, Tr (tr l)
 | [] => trivial
 | x :: l => by
  simp only [tr]
  split
  ·split
   ·trivial
   exact ⟨fun _ => by assumption, trivial⟩
  exact ⟨fun h => absurd h (by assumption), tr_Tr l⟩
theorem tr_take : ∀ l : List Int, tr l = l.take (tr l).length ∧ (tr l).length ≤ l.length ∧ ∀ x ∈ l.drop (tr l).length, x = 0
 | [] => by simp [tr]
 | x :: l => by
  obtain ⟨h1, h2, h3⟩ := tr_take l
  simp only [tr]
  split
  ·rename_i h
   rw [h] at h3
   simp only [List.length_nil, List.drop_zero] at h3
   split
   ·rename_i hx
    refine ⟨by simp, by simp, fun y hy => ?_⟩
    simp only [List.length_nil, List.drop_zero] at hy
    cases hy with
    | head => exact hx
    | tail _ hy => exact h3 y hy
   exact ⟨by simp, by simp, fun y hy => h3 y (by simpa using hy)⟩
  refine ⟨?_, by simpa using h2, fun y hy => h3 y (by simpa using hy)⟩
  simp only [List.length_cons, List.take_succ_cons]
  rw [← h1]
theorem Dg.tr {B : Int} {l : List Int} (h : Dg B l) : Dg B (tr l) := by rw [(tr_take l).1]; exact h.take _
theorem Tr.tail {x : Int} {l : List Int} (h : Tr (x :: l)) : Tr l := h.2
theorem Tr.tr_eq : ∀ {l : List Int}, Tr l → tr l = l
 | [], _ => rfl
 | x :: l, h => by
  have ih := Tr.tr_eq h.2
  simp only [tr, ih]
  split
  ·rename_i e
   subst e
   rw [if_neg (h.1 rfl)]
  rfl
theorem tr_len_unique {l : List Int} {n : Nat} (hn : n ≤ l.length) (h0 : ∀ j, n ≤ j → l.getD j 0 = 0) (h1 : 0 < n → l.getD (n - 1) 0 ≠ 0) : (tr l).length = n := by
 obtain ⟨a, b, c⟩ := tr_take l
 rcases Nat.lt_trichotomy (tr l).length n with h | h | h
 ·refine absurd ?_ (h1 (by omega))
  have hlt : n - 1 < l.length := by omega
  have : l[n - 1] ∈ l.drop (tr l).length := by
   rw [List.mem_drop_iff_getElem]
   exact ⟨n - 1 - (tr l).length, by omega, by congr 1; omega⟩
  have h2 := c _ this
  simp [List.getD, hlt, h2]
 ·exact h
 exfalso
 have hne : tr l ≠ [] := fun e => by rw [e] at h; simp at h
 -- the last digit of tr l isn't 0, yet it lies at or behind n
 have key : ∀ (m : List Int), Tr m → m ≠ [] → m.getD (m.length - 1) 0 ≠ 0 := by
  intro m
  induction m with
  | nil => intro _ h; exact absurd rfl h
  | cons x m ih =>
   intro ht _
   cases m with
   | nil => simpa using ht.1 rfl
   | cons y m =>
    have := ih ht.2 (by simp)
    simpa using this
 have hk := key _ (tr_Tr l) hne
 have h4 := h0 ((tr l).length - 1) (by omega)
 rw [a] at hk
 apply hk
 rw [List.length_take, Nat.min_eq_left b]
 simp only [List.getD, List.getElem?_take] at h4 ⊢
 rw [if_pos (by omega)]
 exact h4
theorem vb_inj {B : Int} (hB : 1 < B) : ∀ {l m : List Int}, Dg B l → Dg B m → Tr l → Tr m → vb B l = vb B m → l = m
 | [], [], _, _, _, _, _ => rfl
 | [], y :: m, _, hm, _, tm, e => by
  exfalso
  have h1 := vb_nonneg (by omega) hm.tail
  have h2 := Int.mul_nonneg (show 0 ≤ B by omega) h1
  have h3 := hm.head
  simp only [vb] at e
  have hz : y = 0 := by omega
  have hv : B * vb B m = 0 := by omega
  have hv' : vb B m = 0 := by
   rcases Int.mul_eq_zero.1 hv with h | h
   ·omega
   exact h
  have := vb_inj hB (Dg.nil B) hm.tail trivial tm.2 (by rw [hv']; rfl)
  exact tm.1 this.symm hz
 | x :: l, [], hl, _, tl, _, e => by
  exfalso
  have h1 := vb_nonneg (by omega) hl.tail
  have h2 := Int.mul_nonneg (show 0 ≤ B by omega) h1
  have h3 := hl.head
  simp only [vb] at e
  have hz : x = 0 := by omega
  have hv : B * vb B l = 0 := by omega
  have hv' : vb B l = 0 := by
   rcases Int.mul_eq_zero.1 hv with h | h
   ·omega
   exact h
  have := vb_inj hB hl.tail (Dg.nil B) tl.2 trivial (by rw [hv']; rfl)
  exact tl.1 this hz
 | x :: l, y :: m, hl, hm, tl, tm, e => by
  simp only [vb] at e
  have h1 := hl.head
  have h2 := hm.head
  have hx : x = (x + B * vb B l) % B := by rw [Int.add_mul_emod_self_left]; exact (Int.emod_eq_of_lt h1.1 h1.2).symm
  have hy : y = (y + B * vb B m) % B := by rw [Int.add_mul_emod_self_left]; exact (Int.emod_eq_of_lt h2.1 h2.2).symm
  have hxy : x = y := by rw [hx, hy, e]
  subst hxy
  have hv : vb B l = vb B m := Int.eq_of_mul_eq_mul_left (show B ≠ 0 by omega) (by omega)
  rw [vb_inj hB hl.tail hm.tail tl.2 tm.2 hv]
structure Cn (B : Int) (l : List Int) (n : Int) : Prop where
 dg : Dg B l
 tr : Tr l
 val : vb B l = n
theorem Cn.eq {B : Int} (hB : 1 < B) {l m : List Int} {n : Int} (h : Cn B l n) (k : Cn B m n) : l = m := vb_inj hB h.dg k.dg h.tr k.tr (h.val.trans k.val.symm)
theorem Cn.of_tr {B : Int} {l : List Int} {n : Int} (h : Dg B l) (hv : vb B l = n) : Cn B (Ma.tr l) n := ⟨h.tr, tr_Tr l, (tr_val B l).trans hv⟩
theorem Cn.nil {B : Int} : Cn B [] 0 := ⟨Dg.nil B, trivial, rfl⟩
theorem Cn.nonneg {B : Int} (hB : 0 < B) {l : List Int} {n : Int} (h : Cn B l n) : 0 ≤ n := h.val ▸ vb_nonneg hB h.dg
theorem Tr.pos {B : Int} (hB : 0 < B) : ∀ {l : List Int}, Dg B l → Tr l → l ≠ [] → B ^ (l.length - 1) ≤ vb B l
 | [], _, _, h => absurd rfl h
 | [x], h, t, _ => by
  have := h.head
  have := t.1 rfl
  simp [vb]; omega
 | x :: y :: l, h, t, _ => by
  have ih := Tr.pos hB h.tail t.2 (by simp)
  simp only [List.length_cons, Nat.add_sub_cancel] at ih ⊢
  have h1 := h.head
  have h2 : B * B ^ l.length ≤ B * vb B (y :: l) := Int.mul_le_mul_of_nonneg_left ih (Int.le_of_lt hB)
  rw [Int.pow_succ, Int.mul_comm]
  show _ ≤ x + B * vb B (y :: l)
  omega
theorem Cn.nil_iff {B : Int} (hB : 1 < B) {l : List Int} {n : Int} (h : Cn B l n) : l = [] ↔ n = 0 := by
 constructor
 ·intro e; subst e; exact h.val.symm
 intro e; subst e; exact h.eq hB Cn.nil
theorem Cn.lt_of_len {B : Int} (hB : 1 < B) {l m : List Int} {a b : Int} (h : Cn B l a) (k : Cn B m b) (hl : l.length < m.length) : a < b := by
 have h1 := vb_lt (show 0 < B by omega) h.dg
 have h2 := Tr.pos (show 0 < B by omega) k.dg k.tr (by intro e; subst e; simp at hl)
 rw [h.val] at h1
 rw [k.val] at h2
 have h3 : B ^ l.length ≤ B ^ (m.length - 1) := pow_mono (by omega) (by omega)
 omega
theorem vb_lt_of_top {B : Int} (hB : 0 < B) {l m : List Int} (hl : Dg B l) (hm : Dg B m) (hlen : l.length = m.length) {k : Nat} (hk : k < l.length) (hs : l.drop (k + 1) = m.drop (k + 1)) (h : l.getD k 0 < m.getD k 0) : vb B l < vb B m := by
 have hkm : k < m.length := by omega
 have e1 : l = l.take k ++ l.getD k 0 :: l.drop (k + 1) := by
  have : l.getD k 0 = l[k] := by simp [List.getD, hk]
  rw [this, ← List.drop_eq_getElem_cons hk, List.take_append_drop]
 have e2 : m = m.take k ++ m.getD k 0 :: m.drop (k + 1) := by
  have : m.getD k 0 = m[k] := by simp [List.getD, hkm]
  rw [this, ← List.drop_eq_getElem_cons hkm, List.take_append_drop]
 have a1 := vb_append B (l.take k) (l.getD k 0 :: l.drop (k + 1))
 have a2 := vb_append B (m.take k) (m.getD k 0 :: m.drop (k + 1))
 rw [← e1] at a1
 rw [← e2] at a2
 have t1 : (l.take k).length = k := by rw [List.length_take]; omega
 have t2 : (m.take k).length = k := by rw [List.length_take]; omega
 have b1 := vb_lt hB (hl.take k)
 have b2 := vb_nonneg hB (hm.take k)
 rw [t1] at a1 b1
 rw [t2] at a2
 simp only [vb, hs] at a1 a2
 have h3 : B ^ k * (l.getD k 0 + 1 + B * vb B (m.drop (k + 1))) ≤ B ^ k * (m.getD k 0 + B * vb B (m.drop (k + 1))) :=
  Int.mul_le_mul_of_nonneg_left (by omega) (Int.le_of_lt (pow_pos hB k))
 rw [show l.getD k 0 + 1 + B * vb B (m.drop (k + 1)) = (l.getD k 0 + B * vb B (m.drop (k + 1))) + 1 from by omega, Int.mul_add, Int.mul_one] at h3
 omega
theorem vb_take_succ (B : Int) (l : List Int) (k : Nat) : vb B (l.take (k + 1)) = vb B (l.take k) + B ^ k * l.getD k 0 := by
 rcases Nat.lt_or_ge k l.length with h | h
 ·have e : l.take (k + 1) = l.take k ++ [l[k]] := by rw [List.take_succ_eq_append_getElem h]
  rw [e, vb_append]
  have : (l.take k).length = k := by rw [List.length_take]; omega
  rw [this]
  simp [vb, List.getD, h]
 rw [List.take_of_length_le (by omega), List.take_of_length_le h]
 simp [List.getD, h]
theorem vb_set (B : Int) (l : List Int) (k : Nat) (x : Int) (h : k < l.length) : vb B ((l.set k x).take (k + 1)) = vb B (l.take k) + B ^ k * x := by
 rw [vb_take_succ]
 have e : (l.set k x).take k = l.take k := List.take_set_of_le (Nat.le_refl k)
 rw [e]
 simp [List.getD, h]
def blen (n : Int) : Int := if n ≤ 0 then 0 else (Nat.log2 n.toNat : Int) + 1
theorem blen_zero : blen 0 = 0 := by simp [blen]
theorem blen_of {n : Int} {k : Nat} (h1 : 2 ^ k ≤ n) (h2 : n < 2 ^ (k + 1)) : blen n = (k : Int) + 1 := by
 have h0 : 0 < n := Int.lt_of_lt_of_le (pow_pos (by omega) k) h1
 unfold blen
 rw [if_neg (by omega)]
 congr 2
 obtain ⟨m, rfl⟩ := Int.eq_ofNat_of_zero_le (Int.le_of_lt h0)
 rw [Int.toNat_natCast]
 have h1' : 2 ^ k ≤ m := by exact_mod_cast h1
 have h2' : m < 2 ^ (k + 1) := by exact_mod_cast h2
 exact (Nat.log2_eq_iff (by omega)).2 ⟨h1', h2'⟩
theorem blen_spec {n : Int} (h : 0 < n) : ∃ k : Nat, blen n = (k : Int) + 1 ∧ 2 ^ k ≤ n ∧ n < 2 ^ (k + 1) := by
 obtain ⟨m, rfl⟩ := Int.eq_ofNat_of_zero_le (Int.le_of_lt h)
 have hm : m ≠ 0 := by omega
 refine ⟨Nat.log2 m, ?_, ?_, ?_⟩
 ·unfold blen; rw [if_neg (by omega), Int.toNat_natCast]
 ·exact_mod_cast Nat.log2_self_le hm
 exact_mod_cast Nat.lt_log2_self (n := m)
theorem blen_nonneg (n : Int) : 0 ≤ blen n := by unfold blen; split <;> omega
theorem blen_pos {n : Int} (h : 0 < n) : 0 < blen n := by unfold blen; rw [if_neg (by omega)]; omega
theorem blen_le_iff {n : Int} (h : 0 ≤ n) (k : Nat) : blen n ≤ k ↔ n < 2 ^ k := by
 rcases Int.lt_or_eq_of_le h with h0 | h0
 ·obtain ⟨m, e, h1, h2⟩ := blen_spec h0
  rw [e]
  constructor
  ·intro hk
   exact Int.lt_of_lt_of_le h2 (pow_mono (by omega) (by omega))
  intro hk
  have : m < k := by
   rcases Nat.lt_or_ge m k with h | h
   ·exact h
   have := pow_mono (B := 2) (by omega) h
   omega
  omega
 subst h0
 rw [blen_zero]
 exact ⟨fun _ => pow_pos (by omega) k, fun _ => by omega⟩
theorem blen_mono {a b : Int} (h0 : 0 ≤ a) (h : a ≤ b) : blen a ≤ blen b := by
 have hb := blen_nonneg b
 obtain ⟨k, hk⟩ := Int.eq_ofNat_of_zero_le hb
 rw [hk]
 refine (blen_le_iff h0 k).2 (Int.lt_of_le_of_lt h ((blen_le_iff (by omega) k).1 (by omega)))
theorem blen_shift {a r : Int} {k : Nat} (ha : 0 < a) (hr : 0 ≤ r) (hr2 : r < 2 ^ k) : blen (r + 2 ^ k * a) = (k : Int) + blen a := by
 obtain ⟨m, e, h1, h2⟩ := blen_spec ha
 have hp := pow_pos (show (0 : Int) < 2 by omega) k
 have h3 : 2 ^ k * 2 ^ m ≤ 2 ^ k * a := Int.mul_le_mul_of_nonneg_left h1 (Int.le_of_lt hp)
 have h4 : 2 ^ k * (a + 1) ≤ 2 ^ k * 2 ^ (m + 1) := Int.mul_le_mul_of_nonneg_left (by omega) (Int.le_of_lt hp)
 rw [Int.mul_add, Int.mul_one] at h4
 rw [← Int.pow_add] at h3 h4
 have := blen_of (n := r + 2 ^ k * a) (k := k + m) (by omega) (by rw [show k + m + 1 = k + (m + 1) from by omega]; omega)
 rw [this, e]; omega
theorem blen_half {n : Int} (h : 0 < n) : blen n = blen (n / 2) + 1 := by
 rcases Int.lt_or_le n 2 with h1 | h1
 ·obtain rfl : n = 1 := by omega
  decide
 have := blen_shift (a := n / 2) (r := n % 2) (k := 1) (by omega) (by omega) (by omega)
 rw [show n % 2 + 2 ^ 1 * (n / 2) = n from by omega] at this
 omega
theorem Tr.top {B : Int} : ∀ {l : List Int}, Dg B l → Tr l → 0 < l.length → 0 < l.getD (l.length - 1) 0
 | [], _, _, h => by simp at h
 | [x], h, t, _ => by
  have := h.head
  have := t.1 rfl
  simp; omega
 | x :: y :: l, h, t, _ => by
  have := Tr.top h.tail t.2 (by simp)
  simpa using this
theorem blen_top {s : Nat} {l : List Int} (h : Dg (2 ^ s) l) (ht : Tr l) (hn : 0 < l.length) : blen (vb (2 ^ s) l) = (s : Int) * ((l.length : Int) - 1) + blen (l.getD (l.length - 1) 0) := by
 have hp := Tr.top h ht hn
 have hB := pow_pos (show (0 : Int) < 2 by omega) s
 have hlt : l.length - 1 < l.length := by omega
 have e : l = l.take (l.length - 1) ++ [l.getD (l.length - 1) 0] := by
  have : l.getD (l.length - 1) 0 = l[l.length - 1] := by simp [List.getD, hlt]
  have hd : l.drop (l.length - 1) = [l[l.length - 1]] := by
   rw [List.drop_eq_getElem_cons hlt, List.drop_eq_nil_of_le (by omega)]
  rw [this, ← hd, List.take_append_drop]
 have hv := vb_append (2 ^ s) (l.take (l.length - 1)) [l.getD (l.length - 1) 0]
 rw [← e] at hv
 have tl : (l.take (l.length - 1)).length = l.length - 1 := by rw [List.length_take]; omega
 rw [tl] at hv
 simp only [vb, Int.mul_zero, Int.add_zero] at hv
 have b1 := vb_lt hB (h.take (l.length - 1))
 have b2 := vb_nonneg hB (h.take (l.length - 1))
 rw [tl] at b1
 rw [← Int.pow_mul] at hv b1
 rw [hv, blen_shift hp b2 b1, Int.natCast_mul]
 congr 2
 omega
theorem vb_set_at (B : Int) : ∀ (l : List Int) (k : Nat) (x : Int), k < l.length → vb B (l.set k x) = vb B l + B ^ k * (x - l.getD k 0)
 | [], k, x, h => by simp at h
 | y :: l, 0, x, _ => by simp [vb]; omega
 | y :: l, k + 1, x, h => by
  have ih := vb_set_at B l k x (by simpa using h)
  simp only [List.set_cons_succ, vb, ih, List.getD_cons_succ, Int.pow_succ, Int.mul_add]
  rw [Int.mul_comm (B ^ k) B, Int.mul_assoc]; omega
theorem vb_drop (B : Int) {l : List Int} {k : Nat} (h : k < l.length) : vb B (l.drop k) = l.getD k 0 + B * vb B (l.drop (k + 1)) := by
 have : l.getD k 0 = l[k] := by simp [List.getD, h]
 rw [List.drop_eq_getElem_cons h, vb, this]
theorem quo_step {B d r a Q H : Int} (hB : 0 < B) (hd : 0 < d) (h : Q * d + r = H) : ((r * B + a) / d + B * Q) * d + (r * B + a) % d = a + B * H := by
 have e := Int.emod_add_mul_ediv (r * B + a) d
 rw [Int.add_mul, Int.mul_comm ((r * B + a) / d) d, ← h, Int.mul_add, Int.mul_assoc, Int.mul_comm r B] at *
 omega
end Go.Ma
