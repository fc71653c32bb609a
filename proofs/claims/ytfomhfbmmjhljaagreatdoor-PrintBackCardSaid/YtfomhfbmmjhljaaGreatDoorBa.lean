/- plain facts: what is printed is a number's text -/
import Derived.Test.YtfomhfbmmjhljaaGreatDoorQj
import Derived.Test.YtfomhfbmmjhljaaGreatDoorJf
set_option linter.unusedVariables false
set_option linter.unusedSimpArgs false
set_option maxRecDepth 10000
namespace Go.Proofs.YtfomhfbmmjhljaaGreatDoor.W
open Go.Vc Go.RowKit _root_.Go.Proofs.Tryz
theorem fl_formS {T : L8} {k bb road place e x : Int} {d : Kd} {W F : L8} {neg : Bool} (h : FlR T k bb road place e) (hk : kd k = some d) (hf : Form T neg W F x) (hl : T.length ≤ 1024) :
  ∃ tt, fltT d (pv (W ++ F)) (x - F.length) tt ∧ bb = (if tt.2.2 = 0 then sgF d neg tt.1 else 0) ∧ e = (if tt.2.2 = 0 then 0 else 90) := by
 have hr := hf.read hl
 by_cases h0 : Z0T (W ++ F) = []
 ·have hs0 := Z1k.nil hr (.inr h0)
  have hp : pv (W ++ F) = 0 := by rw [← Z4w, h0]; rfl
  rw [hp]
  cases h with
  | kind h2 => rw [hk] at h2; cases h2
  | err _ hs he => obtain ⟨_, _, _, _, _, _, h3⟩ := hs.unique hs0; exact absurd h3 he
  | word h2 hs _ =>
   rw [hk] at h2; cases h2
   obtain ⟨rfl, rfl, _⟩ := hs.unique hs0
   refine ⟨_, flt_zero d _, ?_, rfl⟩
   cases neg <;> simp [spF, sgF]
  | num _ hs hw _ _ => obtain ⟨_, rfl, rfl, _⟩ := hs.unique hs0; exact absurd (.inr rfl) hw
 have hs0 := Z1k.num hr h0 rfl
 have hdg := hr.facts.1
 have hne : 0 < (Z0T (W ++ F)).length := List.length_pos_iff.2 h0
 have hh := skip0_head (W ++ F) h0
 have hlead := Z4H (t := (Z0T (W ++ F)).take ((Z0T (W ++ F)).length - ((Z0T (W ++ F)).length - 19))) (fun c hc => hdg c (Z2u (List.mem_of_mem_take hc))) (by rw [List.length_take]; omega) (fun e => hh ((Z2F (d := 48)).1 (by rw [← take_hd (Z0T (W ++ F)) (show 0 < (Z0T (W ++ F)).length - ((Z0T (W ++ F)).length - 19) by omega)]; exact e)))
 have hpos := Ma.pow_pos (show (0 : Int) < 10 by omega) (((Z0T (W ++ F)).take ((Z0T (W ++ F)).length - ((Z0T (W ++ F)).length - 19))).length - 1)
 cases h with
 | kind h2 => rw [hk] at h2; cases h2
 | err _ hs he => obtain ⟨_, _, _, _, _, _, h3⟩ := hs.unique hs0; exact absurd h3 he
 | word _ hs hw =>
  obtain ⟨_, rfl, rfl, _⟩ := hs.unique hs0
  unfold wdP at hw
  omega
 | num h2 hs hw hx ht =>
  rw [hk] at h2; cases h2
  obtain ⟨rfl, _⟩ := hs.unique hs0
  obtain ⟨rfl, rfl, _⟩ := hx.unique (ExR.num hr h0)
  rw [Z4w] at ht
  exact ⟨_, ht, rfl, rfl⟩
theorem itoa_form {n : Int} (hn : -1000 < n ∧ n < 1000) : ∃ (zE E : L8) (en : Bool), Z2S n = zE ++ E ∧ Sgn zE en ∧ (∀ d ∈ E, isD d) ∧ E ≠ [] ∧ n = expS en E := by
 unfold Z2S
 by_cases h : n < 0
 ·have hf := Z2T (n := -n) ZO
  rw [if_pos h]
  refine ⟨[45], dtx (-n), true, rfl, .inr (.inr ⟨rfl, rfl⟩), hf.1, hf.2.2.1, ?_⟩
  unfold expS
  rw [if_pos rfl, expo_pv _ _ rfl hf.1, hf.2.1]
  omega
 have hf := Z2T (n := n) ZO
 rw [if_neg h]
 refine ⟨[], dtx n, false, rfl, .inl ⟨rfl, rfl⟩, hf.1, hf.2.2.1, ?_⟩
 unfold expS
 rw [if_neg (by decide), expo_pv _ _ rfl hf.1, hf.2.1]
 omega
theorem zsT_dig (n : Int) : ∀ c ∈ zsT n, isD c := fun c hc => by
 unfold zsT at hc
 rw [(List.mem_replicate.1 hc).2]
 decide
theorem pv_zsT (n : Int) : pv (zsT n) = 0 := Z38 _ fun j hj => by
 unfold zsT at hj ⊢
 rw [List.length_replicate] at hj
 simp [List.getD, hj]
theorem sh_form {m e : Int} (hm : 0 < m) (he : -900 < ((dtx m).length : Int) + e ∧ ((dtx m).length : Int) + e < 900) {z : L8} {neg : Bool} (hz : Sgn z neg) :
  ∃ (W F : L8) (X : Int) (j : Nat), Form (z ++ shT m e) neg W F X ∧ pv (W ++ F) = m * 10 ^ j ∧ X - F.length = e - j := by
 have hf := Z2T (n := m) ZO
 have hl : 0 < (dtx m).length := List.length_pos_iff.2 hf.2.2.1
 have ht : ∀ n, (∀ c ∈ (dtx m).take n, isD c) ∧ (∀ c ∈ (dtx m).drop n, isD c) := fun n => ⟨fun c hc => hf.1 c (List.mem_of_mem_take hc), fun c hc => hf.1 c (List.mem_of_mem_drop hc)⟩
 unfold shT
 split
 ·rename_i h
  obtain ⟨zE, E, en, e1, e2, e3, e4, e5⟩ := itoa_form (n := ((dtx m).length : Int) + e - 1) ZO
  refine ⟨(dtx m).take 1, (dtx m).drop 1, _, 0, ⟨⟨z, if 1 < (dtx m).length then [46] else [], 101 :: (zE ++ E), hz, (ht 1).1, (ht 1).2, .inl ?_, ?_, .inr ⟨101, zE, E, en, rfl, .inl rfl, e2, e3, e4, e5⟩, ?_⟩⟩, by rw [List.take_append_drop, hf.2.1]; simp, ?_⟩
  ·intro h2
   have := congrArg List.length h2
   rw [List.length_take, List.length_nil] at this
   omega
  ·split
   ·exact .inr rfl
   exact .inl ⟨rfl, List.drop_eq_nil_of_le ZO⟩
  ·unfold ptT exT
   rw [e1]
   split <;> rename_i h1
   ·rw [if_pos (by simpa using h1)]; simp
   rw [if_neg (by simpa using h1), List.drop_eq_nil_of_le ZO]; simp
  rw [List.length_drop]; omega
 split
 ·rename_i h
  have hzl : (zsT (-(((dtx m).length : Int) + e))).length = (-(((dtx m).length : Int) + e)).toNat := List.length_replicate
  refine ⟨[48], zsT (-(((dtx m).length : Int) + e)) ++ dtx m, 0, 0, ⟨⟨z, [46], [], hz, fun c hc => by rw [List.mem_singleton.1 hc]; decide, fun c hc => (List.mem_append.1 hc).elim (zsT_dig _ c) (hf.1 c), .inl (by simp), .inr rfl, .inl ⟨rfl, rfl⟩, by simp⟩⟩, ?_, ?_⟩
  ·have a1 := Z1e [48] (zsT (-(((dtx m).length : Int) + e)) ++ dtx m).length (zsT (-(((dtx m).length : Int) + e)) ++ dtx m) rfl
   have a2 := Z1e (zsT (-(((dtx m).length : Int) + e))) (dtx m).length (dtx m) rfl
   rw [pv_zsT, Int.zero_mul, Int.zero_add, hf.2.1] at a2
   rw [show pv [48] = 0 from by decide, Int.zero_mul, Int.zero_add, a2] at a1
   rw [a1]; simp
  rw [List.length_append, hzl]; omega
 split
 ·rename_i h0 h1
  refine ⟨(dtx m).take (((dtx m).length : Int) + e).toNat, (dtx m).drop (((dtx m).length : Int) + e).toNat, 0, 0, ⟨⟨z, [46], [], hz, (ht _).1, (ht _).2, .inl ?_, .inr rfl, .inl ⟨rfl, rfl⟩, ?_⟩⟩, by rw [List.take_append_drop, hf.2.1]; simp, ?_⟩
  ·intro h2
   have := congrArg List.length h2
   rw [List.length_take, List.length_nil] at this
   omega
  ·unfold ptT
   rw [if_pos ZO]; simp
  rw [List.length_drop]; omega
 rename_i h0 h1
 have hzl : (zsT e).length = e.toNat := List.length_replicate
 refine ⟨dtx m ++ zsT e, [], 0, e.toNat, ⟨⟨z, [], [], hz, fun c hc => (List.mem_append.1 hc).elim (hf.1 c) (zsT_dig _ c), fun c hc => (by cases hc), .inl (by simp [hf.2.2.1]), .inl ⟨rfl, rfl⟩, .inl ⟨rfl, rfl⟩, by simp⟩⟩, ?_, by simp; omega⟩
 have a2 := Z1e (dtx m) (zsT e).length (zsT e) rfl
 rw [pv_zsT, hf.2.1, hzl, Int.add_zero] at a2
 rw [List.append_nil, a2]
theorem fv_gaps (d : Kd) {b : Int} (hb : 0 < b) : fv d.H b ≤ 2 * d.H * (fv d.H b - fv d.H (b - 1)) ∧ fv d.H b ≤ 2 * d.H * (fv d.H (b + 1) - fv d.H b) := by
 constructor
 ·obtain ⟨x, u, _, h1, h2, _, e1, e2⟩ := Z4E d.hH0 (b := b - 1) ZO
  rw [show b - 1 + 1 = b from by omega] at e2
  have hp := Ma.pow_pos (show (0 : Int) < 2 by omega) u
  rw [e1, e2, Int.add_mul, Int.one_mul, show x * 2 ^ u + 2 ^ u - x * 2 ^ u = 2 ^ u by omega]
  have h3 : (x + 1) * 2 ^ u ≤ 2 * d.H * 2 ^ u := Int.mul_le_mul_of_nonneg_right ZO (Int.le_of_lt hp)
  rw [Int.add_mul, Int.one_mul] at h3
  exact h3
 obtain ⟨x, u, _, h1, h2, _, e1, e2⟩ := Z4E d.hH0 (b := b) ZO
 have hp := Ma.pow_pos (show (0 : Int) < 2 by omega) u
 rw [e1, e2, Int.add_mul, Int.one_mul, show x * 2 ^ u + 2 ^ u - x * 2 ^ u = 2 ^ u by omega]
 exact Int.mul_le_mul_of_nonneg_right ZO (Int.le_of_lt hp)
theorem rd_near {d : Kd} {b x y e m : Int} (hb : 0 < b ∧ b < d.I) (hy : 0 < y) (hv : fv d.H b * y = x * 2 ^ d.l) (h1 : 2 * fN x e - fD y e ≤ 2 * (m * fD y e)) (h2 : 2 * (m * fD y e) ≤ 2 * fN x e + fD y e) (hbig : (2 * d.H + 1) * fD y e ≤ fN x e) : rdP d b m e := by
 have hl := Ma.pow_pos (show (0 : Int) < 2 by omega) d.l
 unfold fD fN at h1 h2 hbig
 unfold rdP
 obtain ⟨A, hA⟩ : ∃ A : Int, (10 : Int) ^ e.toNat = A := ⟨_, rfl⟩
 obtain ⟨D, hDd⟩ : ∃ D : Int, (10 : Int) ^ (-e).toNat = D := ⟨_, rfl⟩
 have hA0 : 0 < A := hA ▸ p10 _
 have hD0 : 0 < D := hDd ▸ p10 _
 rw [hA, hDd] at h1 h2 hbig
 rw [hA, hDd]
 obtain ⟨L, hL⟩ : ∃ L : Int, (2 : Int) ^ d.l = L := ⟨_, rfl⟩
 rw [hL] at hl hv ⊢
 obtain ⟨g1, g2⟩ := fv_gaps d hb.1
 obtain ⟨F, hF⟩ : ∃ F : Int, fv d.H b = F := ⟨_, rfl⟩
 obtain ⟨F1, hF1⟩ : ∃ F1 : Int, fv d.H (b - 1) = F1 := ⟨_, rfl⟩
 obtain ⟨F2, hF2⟩ : ∃ F2 : Int, fv d.H (b + 1) = F2 := ⟨_, rfl⟩
 rw [hF, hF1] at g1
 rw [hF, hF2] at g2
 rw [hF] at hv
 rw [hF, hF1, hF2]
 obtain ⟨G, hG⟩ : ∃ G : Int, A * L = G := ⟨_, rfl⟩
 have hG0 : 0 < G := hG ▸ Int.mul_pos hA0 hl
 have hN : m * A * L = m * G := by rw [← hG, Int.mul_assoc]
 rw [hN]
 have ex : x * D * L = F * D * y := by rw [Int.mul_right_comm, ← hv]; simp only [Int.mul_assoc, Int.mul_comm, Int.mul_left_comm]
 have ey : y * A * L = G * y := by rw [← hG]; simp only [Int.mul_assoc, Int.mul_comm, Int.mul_left_comm]
 have em : m * (y * A) * L = m * G * y := by rw [← hG]; simp only [Int.mul_assoc, Int.mul_comm, Int.mul_left_comm]
 have k1 := Int.mul_le_mul_of_nonneg_right h1 (Int.le_of_lt hl)
 rw [Int.sub_mul, Int.mul_assoc 2, ex, ey, Int.mul_assoc 2, em] at k1
 have k2 := Int.mul_le_mul_of_nonneg_right h2 (Int.le_of_lt hl)
 rw [Int.add_mul, Int.mul_assoc 2, em, Int.mul_assoc 2, ex, ey] at k2
 have k3 := Int.mul_le_mul_of_nonneg_right hbig (Int.le_of_lt hl)
 rw [Int.mul_assoc, ey, ex] at k3
 have j1 : 2 * (F * D) - G ≤ 2 * (m * G) := Int.le_of_mul_le_mul_right (by rw [Int.sub_mul, Int.mul_assoc 2, Int.mul_assoc 2]; exact k1) hy
 have j2 : 2 * (m * G) ≤ 2 * (F * D) + G := Int.le_of_mul_le_mul_right (by rw [Int.add_mul, Int.mul_assoc 2, Int.mul_assoc 2]; exact k2) hy
 have j3 : (2 * d.H + 1) * G ≤ F * D := Int.le_of_mul_le_mul_right (by rw [Int.mul_assoc]; exact k3) hy
 have hbd := d.bd
 have half : ∀ {X : Int}, F ≤ 2 * d.H * X → G < X * D := fun {X} hX => by
  have q1 : F * D ≤ 2 * d.H * (X * D) := by
   have := Int.mul_le_mul_of_nonneg_right hX (Int.le_of_lt hD0)
   rwa [Int.mul_assoc] at this
  have q2 : 2 * d.H * G < 2 * d.H * (X * D) := by
   rw [Int.add_mul, Int.one_mul] at j3
   omega
  exact Int.lt_of_mul_lt_mul_left q2 ZO
 have s1 := half g1
 have s2 := half g2
 rw [Int.sub_mul] at s1 s2
 rw [Int.add_mul, Int.add_mul]
 exact ⟨.inl ZO, .inl ZO⟩
theorem rdP_ten {d : Kd} {b m e : Int} : rdP d b (m * 10) e ↔ rdP d b m (e + 1) := by
 unfold rdP
 rcases Int.lt_or_le e 0 with h | h
 ·rw [show e.toNat = 0 from by omega, show (e + 1).toNat = 0 from by omega, show (-e).toNat = (-(e + 1)).toNat + 1 from by omega, Int.pow_succ, Int.pow_zero, Int.mul_one, Int.mul_one, Int.mul_right_comm m, ← Int.mul_assoc (fv d.H (b - 1) + fv d.H b), ← Int.mul_assoc (fv d.H b + fv d.H (b + 1))]
  generalize (fv d.H (b - 1) + fv d.H b) * 10 ^ (-(e + 1)).toNat = A
  generalize (fv d.H b + fv d.H (b + 1)) * 10 ^ (-(e + 1)).toNat = B
  generalize m * 2 ^ d.l = C
  omega
 rw [show (-e).toNat = 0 from by omega, show (-(e + 1)).toNat = 0 from by omega, show (e + 1).toNat = e.toNat + 1 from by omega, Int.pow_succ, Int.mul_comm (10 ^ e.toNat) 10, ← Int.mul_assoc m]
theorem rdP_pow {d : Kd} {b m e : Int} : ∀ j : Nat, rdP d b (m * 10 ^ j) e ↔ rdP d b m (e + j)
 | 0 => by simp
 | j + 1 => by
  have h := rdP_pow (d := d) (b := b) (m := m * 10) (e := e) j
  rw [show m * 10 ^ (j + 1) = m * 10 * 10 ^ j from by rw [Int.pow_succ, Int.mul_comm (10 ^ j) 10, Int.mul_assoc], h, rdP_ten, show e + (j : Int) + 1 = e + ((j + 1 : Nat) : Int) from by omega]
theorem dig_read {d : Kd} {b m e : Int} (hb : 0 < b ∧ b < d.I) (h : DigR d b (fX d b) (fY d b) m e) : rdQ d b m e := by
 have hbd := h.bd hb
 obtain ⟨t, f, ⟨h1, h2, h3, h4⟩, h5, j, h6, h7⟩ := h
 have hr := (pick_read h4).2.2.2
 rw [h6] at hr
 exact ⟨ZO, ZO, ZO, by rw [h7]; exact (rdP_pow j).1 hr⟩
theorem dtx_len19 {m : Int} (h : 0 < m ∧ m ≤ 1000000000000000000) : 0 < (dtx m).length ∧ (dtx m).length ≤ 19 := by
 have hf := Z2T (n := m) ZO
 refine ⟨List.length_pos_iff.2 hf.2.2.1, ?_⟩
 unfold dtx
 rw [if_neg ZO]
 exact dt0_lt 19 m.toNat ZO
theorem itoa_le {n : Int} (h : -1000 < n ∧ n < 1000) : (Z2S n).length ≤ 6 := by
 unfold Z2S
 split
 ·have := dtx_lt (n := -n) ZO
  simp only [List.length_cons]
  omega
 have := dtx_lt (n := n) ZO
 omega
theorem ptT_le (ds : List UInt8) (n : Int) : (ptT ds n).length ≤ ds.length + 1 := by
 unfold ptT
 split
 ·simp only [List.length_append, List.length_take, List.length_cons, List.length_drop]; omega
 simp only [List.length_append, List.length_take, List.length_nil]; omega
theorem sh_len {m e : Int} (h : 0 < m ∧ m ≤ 1000000000000000000) (he : -420 ≤ e ∧ e ≤ 380) : (shT m e).length ≤ 100 := by
 have hl := dtx_len19 h
 unfold shT
 split
 ·have h1 := ptT_le (dtx m) 1
  have h2 := itoa_le (n := ((dtx m).length : Int) + e - 1) ZO
  unfold exT
  simp only [List.length_append, List.length_cons]
  omega
 split
 ·unfold zsT
  simp only [List.length_append, List.length_cons, List.length_nil, List.length_replicate]
  omega
 split
 ·have h1 := ptT_le (dtx m) (((dtx m).length : Int) + e)
  omega
 unfold zsT
 simp only [List.length_append, List.length_replicate]
 omega
theorem Z3K (d : Kd) (b : Int) : Sgn (sgT d b) (decide (d.S ≤ b)) ∧ (sgT d b).length ≤ 1 := by
 unfold sgT
 split
 ·rename_i h
  exact ⟨.inr (.inr ⟨rfl, decide_eq_true h⟩), by simp⟩
 rename_i h
 exact ⟨.inl ⟨rfl, decide_eq_false h⟩, by simp⟩
theorem Z3L {T : L8} {k bb road place e x m y : Int} {d : Kd} {W F : L8} {neg : Bool} {b : Int} {j : Nat} (h : FlR T k bb road place e) (hk : kd k = some d) (hf : Form T neg W F y) (hl : T.length ≤ 1024) (hp : pv (W ++ F) = m * 10 ^ j) (hx : y - F.length = x - j) (hm : 0 ≤ m) (hb : 0 < b ∧ b < d.I) (hr : rdP d b m x) : e = 0 ∧ bb = sgF d neg b := by
 obtain ⟨tt, ht, rfl, rfl⟩ := fl_formS h hk hf hl
 obtain ⟨t0, h0⟩ := RndR.exists (d := d) (N := m * 10 ^ x.toNat * 2 ^ d.l) (D := 10 ^ (-x).toNat) (Ma.pow_pos ZO _) (Int.mul_nonneg (Int.mul_nonneg hm (Int.le_of_lt (Ma.pow_pos ZO _))) (Int.le_of_lt (Ma.pow_pos ZO _)))
 have h1 := (rdP_iff hb (show rdT d m x t0 from h0)).1 hr
 rw [hp, hx] at ht
 have h2 : fltT d (m * 10 ^ j) (x - j) t0 := flt_scale (x := x) (xx := x - j) (q := j) ZO rfl h0
 obtain rfl := ht.unique h2
 rw [if_pos h1.1, if_pos h1.1, h1.2]
 exact ⟨rfl, rfl⟩
theorem back_short {t : L8} {k b e bb road place e2 : Int} {d : Kd} (hk : kd k = some d) (hb : 0 ≤ b ∧ b < 2 * d.S) (hS : ShT k b e t) (hF : FlR t k bb road place e2) : e = 0 ∧ e2 = 0 ∧ bb = (if d.I < b % d.S then nanS d else b) := by
 have hbd := d.bd
 have he : e = 0 := by
  rw [hS.1, Z3J k b ZO]
  exact Z1M hk hb.2
 obtain ⟨d', body, hk', hb2, ht, hz, hd⟩ := hS.2.2 he
 rw [hk] at hk'
 cases hk'
 refine ⟨he, ?_⟩
 have hm := Z2L d hb
 have hsg := Z3K d b
 unfold wdT at ht
 by_cases hn : d.I < b % d.S
 ·rw [if_pos hn] at ht ⊢
  subst ht
  obtain ⟨rfl, _, _, rfl⟩ := fl_wd (wd := 2) (man := 0) (x := 0) (more := false) (ng := false) hF hk (by decide +kernel) (by decide)
  exact ⟨rfl, rfl⟩
 rw [if_neg hn] at ht ⊢
 by_cases hi : b % d.S = d.I
 ·rw [if_pos hi] at ht
  unfold sgT at ht
  split at ht
  ·subst ht
   obtain ⟨rfl, _, _, rfl⟩ := fl_wd (wd := 1) (man := 0) (x := 0) (more := false) (ng := true) hF hk (by decide +kernel) (by decide)
   exact ⟨rfl, by show d.I + d.S = b; omega⟩
  subst ht
  obtain ⟨rfl, _, _, rfl⟩ := fl_wd (wd := 1) (man := 0) (x := 0) (more := false) (ng := false) hF hk (by decide +kernel) (by decide)
  exact ⟨rfl, by show d.I = b; omega⟩
 rw [if_neg hi] at ht
 by_cases h0 : b % d.S = 0
 ·rw [hz h0] at ht
  unfold sgT at ht
  split at ht
  ·subst ht
   obtain ⟨rfl, _, _, rfl⟩ := fl_wd (wd := 0) (man := 0) (x := 0) (more := false) (ng := true) hF hk (by decide +kernel) (by decide)
   exact ⟨rfl, by show d.S = b; omega⟩
  subst ht
  obtain ⟨rfl, _, _, rfl⟩ := fl_wd (wd := 0) (man := 0) (x := 0) (more := false) (ng := false) hF hk (by decide +kernel) (by decide)
  exact ⟨rfl, by show (0 : Int) = b; omega⟩
 obtain ⟨m, x, hD, rfl⟩ := hd ZO ZO
 have hbb : 0 < b % d.S ∧ b % d.S < d.I := by omega
 obtain ⟨q1, q2, q3, q4⟩ := hD.bd hbb
 have hl := dtx_len19 ⟨q1, q2⟩
 obtain ⟨W, F, X, j, hform, hp, hx⟩ := sh_form (e := x) q1 ZO hsg.1
 have hsl := sh_len ⟨q1, q2⟩ ⟨q3, q4⟩
 obtain ⟨r1, r2⟩ := Z3L hF hk (ht ▸ hform) (by rw [ht, List.length_append]; have := hsg.2; omega) hp hx ZO hbb (dig_read hbb hD).2.2.2
 refine ⟨r1, ?_⟩
 rw [r2]
 unfold sgF
 by_cases hs : d.S ≤ b
 ·rw [if_pos (decide_eq_true hs)]; omega
 rw [if_neg (by simp [hs])]; omega
theorem dtx_dl {m : Int} (h : 0 < m) : (dtx m).length = dl m := by unfold dtx dl; rw [if_neg (by omega)]
theorem Z4u {ds : L8} (hd : ∀ c ∈ ds, isD c) (hl : 0 < ds.length) {y : Int} (hy : -1000 < y ∧ y < 1000) {z : L8} {neg : Bool} (hz : Sgn z neg) : Form (z ++ (ptT ds 1 ++ exT y)) neg (ds.take 1) (ds.drop 1) y := by
 obtain ⟨zE, E, en, e1, e2, e3, e4, e5⟩ := itoa_form hy
 refine ⟨⟨z, if 1 < ds.length then [46] else [], 101 :: (zE ++ E), hz, fun c hc => hd c (List.mem_of_mem_take hc), fun c hc => hd c (List.mem_of_mem_drop hc), .inl ?_, ?_, .inr ⟨101, zE, E, en, rfl, .inl rfl, e2, e3, e4, e5⟩, ?_⟩⟩
 ·intro h2
  have := congrArg List.length h2
  rw [List.length_take, List.length_nil] at this
  omega
 ·split
  ·exact .inr rfl
  exact .inl ⟨rfl, List.drop_eq_nil_of_le ZO⟩
 unfold ptT exT
 rw [e1]
 split <;> rename_i h1
 ·rw [if_pos (by simpa using h1)]; simp
 rw [if_neg (by simpa using h1), List.drop_eq_nil_of_le ZO]; simp
theorem Z3b {ds : L8} {y : Int} (hd : ds.length ≤ 60) (hy : -1000 < y ∧ y < 1000) : (ptT ds 1 ++ exT y).length ≤ 100 := by
 have h1 := ptT_le ds 1
 have h2 := itoa_le hy
 unfold exT
 simp only [List.length_append, List.length_cons]
 omega
theorem back_exp {t : L8} {k b e bb road place e2 : Int} {d : Kd} (n : Nat) (hn : 2 * d.H + 1 ≤ 10 ^ n ∧ n ≤ 40) (hk : kd k = some d) (hb : 0 ≤ b ∧ b < 2 * d.S) (hS : ExT k b n e t) (hF : FlR t k bb road place e2) : e = 0 ∧ e2 = 0 ∧ bb = (if d.I < b % d.S then nanS d else b) := by
 have hbd := d.bd
 have he : e = 0 := by
  rw [hS.1]
  unfold askE
  have h1 : (clsF k b).2 = 0 := by rw [Z3J k b ZO]; exact Z1M hk hb.2
  rw [if_pos h1, if_neg ZO]
 obtain ⟨d', body, hk', hb2, ht, hz, hd⟩ := hS.2.2 he
 rw [hk] at hk'
 cases hk'
 refine ⟨he, ?_⟩
 have hm := Z2L d hb
 have hsg := Z3K d b
 have fin : e2 = 0 ∧ bb = sgF d (decide (d.S ≤ b)) (b % d.S) → e2 = 0 ∧ bb = b := by
  rintro ⟨r1, r2⟩
  refine ⟨r1, ?_⟩
  rw [r2]
  unfold sgF
  by_cases hs : d.S ≤ b
  ·rw [if_pos (decide_eq_true hs)]; omega
  rw [if_neg (by simp [hs])]; omega
 unfold wdT at ht
 by_cases hna : d.I < b % d.S
 ·rw [if_pos hna] at ht ⊢
  subst ht
  obtain ⟨rfl, _, _, rfl⟩ := fl_wd (wd := 2) (man := 0) (x := 0) (more := false) (ng := false) hF hk (by decide +kernel) (by decide)
  exact ⟨rfl, rfl⟩
 rw [if_neg hna] at ht ⊢
 by_cases hi : b % d.S = d.I
 ·rw [if_pos hi] at ht
  unfold sgT at ht
  split at ht
  ·subst ht
   obtain ⟨rfl, _, _, rfl⟩ := fl_wd (wd := 1) (man := 0) (x := 0) (more := false) (ng := true) hF hk (by decide +kernel) (by decide)
   exact ⟨rfl, by show d.I + d.S = b; omega⟩
  subst ht
  obtain ⟨rfl, _, _, rfl⟩ := fl_wd (wd := 1) (man := 0) (x := 0) (more := false) (ng := false) hF hk (by decide +kernel) (by decide)
  exact ⟨rfl, by show d.I = b; omega⟩
 rw [if_neg hi] at ht
 by_cases h0 : b % d.S = 0
 ·rw [hz h0] at ht
  have hzl : (zsT ((n : Int) + 1)).length = n + 1 := by unfold zsT; rw [List.length_replicate]; omega
  have hform := Z4u (zsT_dig ((n : Int) + 1)) ZO (y := 0) ZO hsg.1
  obtain ⟨tt, htt, r1, r2⟩ := fl_formS hF hk (ht ▸ hform) (by rw [ht, List.length_append]; have := Z3b (ds := zsT ((n : Int) + 1)) (y := 0) ZO ZO; have := hsg.2; omega)
  rw [List.take_append_drop, pv_zsT] at htt
  obtain rfl := htt.unique (flt_zero d _)
  exact fin ⟨r2, by rw [r1, h0]; rfl⟩
 obtain ⟨x, hT, rfl⟩ := hd ZO ZO
 have hbb : 0 < b % d.S ∧ b % d.S < d.I := by omega
 have hf := Z4s hbb
 obtain ⟨t', ht', g1, _, g3, _⟩ := Z4i hf
 obtain rfl := hT.unique hf.hy ht'
 have g4 := flt_low hf g1
 rw [show (-((n : Int) - x)) = x - n by omega] at ht
 have hD := Z1W hf.hy (x - n)
 have q1 := Z4g hf.hy hT n
 have q2 := Z55 hf.hy hT (n + 1)
 rw [show x + 1 - ((n + 1 : Nat) : Int) = x - n from by omega] at q2
 have hbnd := rnE_bd (N := fN (fX d (b % d.S)) (x - n)) (D := fD (fY d (b % d.S)) (x - n))
 have hbig : (2 * d.H + 1) * fD (fY d (b % d.S)) (x - n) ≤ fN (fX d (b % d.S)) (x - n) := by
  have h1 := (Int.le_ediv_iff_mul_le hD).1 q1
  have h2 := Int.mul_le_mul_of_nonneg_right hn.1 (Int.le_of_lt hD)
  omega
 have hrd := rd_near hbb hf.hy hf.hv (rnE_half hD).1 (rnE_half hD).2 hbig
 have hdg := rn_digs hf.hy hT n
 generalize rnE (fN (fX d (b % d.S)) (x - n)) (fD (fY d (b % d.S)) (x - n)) = R at *
 have hp := p10 n
 have hR : 0 < R := by omega
 have hfd := Z2T (n := R) ZO
 have hdl := dtx_dl hR
 unfold exB at ht
 rcases hdg with h1 | h1
 ·rw [if_neg ZO] at ht
  have hform := Z4u hfd.1 ZO (y := x) ZO hsg.1
  refine fin (Z3L hF hk (ht ▸ hform) (by rw [ht, List.length_append]; have := Z3b (ds := dtx R) (y := x) ZO ZO; have := hsg.2; omega) (m := R) (x := x - n) (j := 0) ?_ ?_ ZO hbb hrd)
  ·rw [List.take_append_drop, hfd.2.1]; simp
  rw [List.length_drop]; omega
 rw [if_pos ZO] at ht
 have hR2 : R = 10 ^ n * 10 := by
  rcases Int.lt_or_le R (10 ^ (n + 1)) with h8 | h8
  ·have := dl_eq (k := n) ZO h8
   omega
  rw [Int.pow_succ] at h8 q2
  omega
 rw [show ((n : Int)).toNat + 1 = n + 1 by omega] at ht
 have htl : ((dtx R).take (n + 1)).length = n + 1 := by rw [List.length_take]; omega
 have hform := Z4u (ds := (dtx R).take (n + 1)) (fun c hc => hfd.1 c (List.mem_of_mem_take hc)) ZO (y := x + 1) ZO hsg.1
 have hpa := Z1e ((dtx R).take (n + 1)) 1 ((dtx R).drop (n + 1)) (by rw [List.length_drop]; omega)
 rw [List.take_append_drop, hfd.2.1] at hpa
 have hdr := Z18 1 ((dtx R).drop (n + 1)) (by rw [List.length_drop]; omega) (fun c hc => hfd.1 c (List.mem_of_mem_drop hc))
 refine fin (Z3L hF hk (ht ▸ hform) (by rw [ht, List.length_append]; have := Z3b (ds := (dtx R).take (n + 1)) (y := x + 1) ZO ZO; have := hsg.2; omega) (m := 10 ^ n) (x := x - n + 1) (j := 0) ?_ ?_ ZO hbb ?_)
 ·rw [List.take_append_drop]
  simp only [Int.pow_zero, Int.mul_one]
  omega
 ·rw [List.length_drop, htl]; omega
 rw [hR2] at hrd
 exact rdP_ten.1 hrd
theorem Z4v {d : Kd} {b : Int} {body : List UInt8} (h : body.length ≤ 150) : (wdT d b body).length ≤ 200 := by
 have h1 := (Z3K d b).2
 unfold wdT
 split
 ·simp
 split
 ·simp only [List.length_append, List.length_cons, List.length_nil]; omega
 simp only [List.length_append]; omega
theorem short_len {t : L8} {k b e : Int} {d : Kd} (hk : kd k = some d) (hb : 0 ≤ b ∧ b < 2 * d.S) (hS : ShT k b e t) : t.length ≤ 200 ∧ e = 0 := by
 have hbd := d.bd
 have he : e = 0 := by
  rw [hS.1, Z3J k b ZO]
  exact Z1M hk hb.2
 refine ⟨?_, he⟩
 obtain ⟨d', body, hk', hb2, ht, hz, hd⟩ := hS.2.2 he
 rw [hk] at hk'
 cases hk'
 have hm := Z2L d hb
 by_cases h0 : b % d.S = 0
 ·rw [ht, hz h0]; exact Z4v (by simp)
 by_cases hi : b % d.S < d.I
 ·obtain ⟨m, x, hD, rfl⟩ := hd ZO hi
  obtain ⟨q1, q2, q3, q4⟩ := hD.bd ZO
  rw [ht]
  exact Z4v (by have := sh_len ⟨q1, q2⟩ ⟨q3, q4⟩; omega)
 rw [ht]
 have h1 := (Z3K d b).2
 unfold wdT
 split
 ·simp
 rw [if_pos ZO]
 simp only [List.length_append, List.length_cons, List.length_nil]; omega
theorem expo_len {t : L8} {k b e : Int} {d : Kd} (n : Nat) (hn : n ≤ 40) (hk : kd k = some d) (hb : 0 ≤ b ∧ b < 2 * d.S) (hS : ExT k b n e t) : t.length ≤ 200 ∧ e = 0 := by
 have hbd := d.bd
 have he : e = 0 := by
  rw [hS.1]
  unfold askE
  have h1 : (clsF k b).2 = 0 := by rw [Z3J k b ZO]; exact Z1M hk hb.2
  rw [if_pos h1, if_neg ZO]
 refine ⟨?_, he⟩
 obtain ⟨d', body, hk', hb2, ht, hz, hd⟩ := hS.2.2 he
 rw [hk] at hk'
 cases hk'
 have hm := Z2L d hb
 by_cases h0 : b % d.S = 0
 ·rw [ht, hz h0]
  have hzl : (zsT ((n : Int) + 1)).length = n + 1 := by unfold zsT; rw [List.length_replicate]; omega
  exact Z4v (by have := Z3b (ds := zsT ((n : Int) + 1)) (y := 0) ZO ZO; omega)
 by_cases hi : b % d.S < d.I
 ·obtain ⟨x, hT, rfl⟩ := hd ZO hi
  have hf := Z4s (d := d) (b := b % d.S) ZO
  obtain ⟨t', ht', g1, _, g3, _⟩ := Z4i hf
  obtain rfl := hT.unique hf.hy ht'
  have g4 := flt_low hf g1
  rw [show (-((n : Int) - x)) = x - n by omega] at ht
  have q1 := Z4g hf.hy hT n
  have hbnd := rnE_bd (N := fN (fX d (b % d.S)) (x - n)) (D := fD (fY d (b % d.S)) (x - n))
  have hdg := rn_digs hf.hy hT n
  generalize rnE (fN (fX d (b % d.S)) (x - n)) (fD (fY d (b % d.S)) (x - n)) = R at *
  have hp := p10 n
  have hdl := dtx_dl (m := R) ZO
  rw [ht]
  refine Z4v ?_
  unfold exB
  split
  ·have := Z3b (ds := (dtx R).take ((n : Int).toNat + 1)) (y := x + 1) (by rw [List.length_take]; omega) ZO
   omega
  have := Z3b (ds := dtx R) (y := x) ZO ZO
  omega
 rw [ht]
 have h1 := (Z3K d b).2
 unfold wdT
 split
 ·simp
 rw [if_pos ZO]
 simp only [List.length_append, List.length_cons, List.length_nil]; omega
theorem back_cls {k a : Int} {d : Kd} (hk : kd k = some d) (ha : 0 ≤ a ∧ a < 2 * d.S) : (clsF k a).1 = 5 ↔ d.I < a % d.S := by
 have hm := Z2L d ha
 have hbd := d.bd
 unfold clsF
 rw [Z1p hk (Z1M hk ha.2)]
 show cls d a = 5 ↔ _
 unfold cls
 (repeat' split) <;> omega
theorem fitL11 (k b : Int) (hb : 0 ≤ b ∧ b ≤ 18446744073709551615) (w : World) :
  Z0h P 5 [.int .i64 k, .int .u64 b] w fun r w' => r = .int .u64 (if k = 9 then b % 4294967296 else b) ∧ w = w' := by
 refine Z0n func5 rfl ntmps5 rfl ?_
 refine Z03 (Z00 (Zg (Z02 (Z01 ?_))))
 refine Zk [0, 1] ?_
 refine Z03 (Z03 (Z00 (Zm ?_)))
 refine Ze ?_
 refine Z02 (Z01 ?_)
 refine Zk [1, 6] ?_
 (first | refine Z0a rfl ?_ ?_ | refine Z06 rfl ?_ ?_) <;> intro hc0
 ·refine Z03 (Z00 (Zm ?_))
  refine Z2X rfl rfl rfl rfl ZO (Z2Y ZO) ?_
  refine Zg (Z02 (Z01 ?_))
  refine Zk [4] ?_
  refine Z0f ?_
  refine Z05 ?_
  refine Z0q results5 rfl ?_
  refine ⟨_, rfl, ?_⟩
  exact ⟨by rw [if_pos hc0], rfl⟩
 refine Z0c (Z01 ?_)
 refine Zk [1] ?_
 refine Z03 (Z00 (Zm (Zg (Z02 (Z01 ?_)))))
 refine Zk [4] ?_
 refine Z0f ?_
 refine Z0q results5 rfl ?_
 refine ⟨_, rfl, ?_⟩
 exact ⟨by rw [if_neg hc0], rfl⟩
theorem printBackL (n b : Int) (hn : -9223372036854775808 ≤ n ∧ n ≤ 9223372036854775807) (hb : 0 ≤ b ∧ b ≤ 18446744073709551615) (w : World) (hT : TabP w) :
  Z0h P 3 [.int .i64 n, .int .u64 b] w fun r w' => r = .bool true ∧ Grow w w' [] := by
 refine Z0n func3 rfl ntmps3 rfl ?_
 have H0 := St.start w
 obtain ⟨d, hk⟩ := kd_fit n
 have hbd := d.bd
 have hfa := fit_bd hk hb
 refine Z03 (Z00 (Zg (Z02 (Z01 ?_))))
 refine Zk [0, 1] ?_
 refine Z03 (Z00 (Zm ?_))
 refine Z0U rfl rfl rfl rfl rfl (and_i1 hn) ?_
 refine Z0w rfl rfl rfl rfl (Z0i ZO) ?_
 refine Zg (Z02 (Z01 ?_))
 refine Zk [1, 5] ?_
 refine Z03 (Z00 (Zm ?_))
 refine Zm ?_
 refine Zp func5 (fitL11 (9 + n % 2) b hb w) ?_
 generalize (if 9 + n % 2 = 9 then b % 4294967296 else b) = a at hfa ⊢
 refine Zg (Z02 (Z01 ?_))
 refine Zk [1, 5] ?_
 refine Z03 (Z00 ?_)
 refine Zc func6 (newC w) ?_
 rintro _ w1 ⟨cb, rfl, hG⟩
 have H1 := hG _ _ _ _ H0
 simp only [Zca, Zna] at H1
 refine Zg (Z02 (Z01 ?_))
 refine Zk [1, 5, 6] ?_
 refine Z03 (Z00 (Zm ?_))
 refine Zm ?_
 refine Zc func7 (ShortestP (9 + n % 2) a ZO w1 (Z2B hT (fun k hk hf => H1.ext.block k hk hf))) ?_
 rintro _ w2 ⟨va, e, t, rfl, hS, hG⟩
 have H2 := hG _ _ _ _ H1
 simp only [Zca, Zna] at H2
 obtain ⟨hlt, rfl⟩ := short_len hk hfa hS
 obtain ⟨A1, c1, rfl, hv1⟩ := IB.sl (t := t) (H2.io mem0)
 have hcl := back_cls hk hfa
 refine Zm ?_
 refine Zx (Zx (Zg ?_))
 refine Zg (Z02 (Z01 ?_))
 refine Zk [1, 5, 6, 7, 8] ?_
 refine Z03 (Z03 (Z00 (Zm ?_)))
 refine l_eqlp ZK rfl rfl rfl rfl ?_
 refine Z0u (s := 37) (v' := .bool false) rfl (by rfl) ?_
 refine Zm ?_
 refine Zm ?_
 refine Z0Q rfl rfl func8 rfl rfl (.cons rfl .nil) (Z4q _ _) ?_
 refine Zo ?_
 refine Z0u (s := 41) (v' := .bool false) rfl (by rfl) ?_
 refine Z3x rfl rfl rfl rfl ?_
 refine Zm ?_
 refine Zc func9 (wakesL11 w2 (Z2B hT (fun k hk hf => H2.ext.block k hk hf))) ?_
 rintro _ w3 ⟨rfl, hG⟩
 have H3 := hG _ _ _ _ H2
 simp only [Zca, Zna] at H3
 first | refine Z1B rfl rfl rfl ?_ | refine Z2o rfl rfl rfl ?_
 refine Z0u (s := 45) (v' := .bool false) rfl (by rfl) ?_
 refine Z3x rfl rfl rfl rfl ?_
 refine Z02 (Z01 ?_)
 refine Zk [1, 5, 6, 7, 46] ?_
 refine c_cond_f rfl rfl ?_
 refine Z0c (Z01 ?_)
 refine Zk [1, 5, 6, 7] ?_
 refine Z03 (Z00 (Zm ?_))
 refine Zg (Z02 (Z01 ?_))
 refine Zk [1, 5, 6, 7, 9] ?_
 refine Z12 (ι := Int) (fun (want : Int) (w' : World) => St w w.heap.size Z0G ([As.rb 5 (.slice A1 t.length c1) t, As.blk cb 65 (cacC (List.replicate 41 none)), As.many (inR (List.replicate 41 none))]) w' ∧ want = (if d.I < a % d.S then nanS d else a)) (fun (want : Int) => [(9, .int .u64 want)]) [1, 5, 6, 7] (.cons rfl (.cons rfl (.cons rfl (.cons rfl .nil)))) ?_ ?_
 ·refine Z03 (Z00 (Zm ?_))
  refine Zm ?_
  refine Zc func10 (classB (9 + n % 2) a ZO w3) ?_
  rintro _ w4 ⟨rfl, hG⟩
  have H4 := hG _ _ _ _ H3
  simp only [Zca, Zna] at H4
  refine Zm ?_
  refine Zx (Zx (Zg ?_))
  refine Zg (Z02 (Z01 ?_))
  refine Zk [1, 5, 6, 7, 9, 10] ?_
  refine Z03 (Z00 (Zm ?_))
  refine Ze ?_
  refine Z02 (Z01 ?_)
  refine Zk [1, 5, 6, 7, 9, 55] ?_
  (first | refine Z0a rfl ?_ ?_ | refine Z06 rfl ?_ ?_) <;> intro hc1
  ·refine Z00 (Zm ?_)
   refine Zc func11 (nanB' (9 + n % 2) d hk w4) ?_
   rintro _ w5 ⟨rfl, hG⟩
   have H5 := hG _ _ _ _ H4
   simp only [Zca, Zna] at H5
   refine Zm ?_
   refine Zx (Zx (Zg (Z02 ?_)))
   have H6 := St.frontL (l := [_, _]) H5
   simp only [Zca, Zna] at H6
   have H7 := St.frontL (l := [_, _]) H6
   simp only [Zca, Zna] at H7
   have H8 := St.frontL (l := [_, _]) H7
   simp only [Zca, Zna] at H8
   refine Z0v (nanS d) ?_ (.cons rfl (.cons rfl (.cons rfl (.cons rfl .nil)))) ?_
   ·exact ⟨H8, by rw [if_pos (hcl.1 ZA)]⟩
   exact (.cons rfl ZN .nil)
  refine Z0c ?_
  have H9 := St.frontL (l := [_, _]) H4
  simp only [Zca, Zna] at H9
  have H10 := St.frontL (l := [_, _]) H9
  simp only [Zca, Zna] at H10
  have H11 := St.frontL (l := [_, _]) H10
  simp only [Zca, Zna] at H11
  refine Z0v (a) ?_ (.cons rfl (.cons rfl (.cons rfl (.cons rfl .nil)))) ?_
  ·exact ⟨H11, by rw [if_neg (fun h => absurd (hcl.2 h) ZA)]⟩
  exact (.cons rfl ZN .nil)
 rintro want w12 ⟨H12, hwant⟩
 show RunC P _ _ _ (_ :: _) _
 refine Z03 (Z00 (Zm ?_))
 refine Zm ?_
 refine Zm ?_
 have H13 := St.frontL (l := [_, _]) H12
 simp only [Zca, Zna] at H13
 have H14 := St.frontL (l := [_, _]) H13
 simp only [Zca, Zna] at H14
 refine Zc func12 (FloatP cb (List.replicate 41 none) (List.length_replicate ..) (9 + n % 2) A1 c1 t ZO w12 (St.rows (τ := cacW cb (List.replicate 41 none)) H14) (St_argR (τ := cacW cb (List.replicate 41 none)) H14 (A := As.rb 5 (.slice A1 (t).length c1) (t)) (.head _) (R := fun w1 => IB w1 (.slice A1 (t).length c1) (t)) (fun w1 h => Own.iv h))) ?_
 rintro _ w15 ⟨bb1, ro1, pl1, e1, L1, o1, rfl, hF1, hNe1, hCa1, hL1, hX⟩
 have H15 := hX _ _ _ _ H14
 simp only [cacW, List.cons_append, List.nil_append] at H15
 obtain ⟨_, he1, hb1⟩ := back_short hk hfa hS hF1
 refine Zm ?_
 refine Zx (Zx (Zx (Zx (Zg ?_))))
 refine Zg ?_
 refine Zg ?_
 refine Zg (Z02 (Z01 ?_))
 refine Zk [1, 5, 6, 9, 12, 15] ?_
 refine Z03 (Z00 (Zg (Z02 (Z01 ?_))))
 refine Z12 (ι := Int) (fun (dg : Int) (w' : World) => St w w.heap.size Z0G ([As.blk cb 65 (cacC L1), As.many (inR L1)]) w' ∧ (0 ≤ dg ∧ dg ≤ 40) ∧ 2 * d.H + 1 ≤ 10 ^ dg.toNat) (fun (dg : Int) => [(16, .int .i64 dg)]) [1, 5, 6, 9, 12, 15] (.cons rfl (.cons rfl (.cons rfl (.cons rfl (.cons rfl (.cons rfl .nil)))))) ?_ ?_
 ·refine Z03 (Z00 (Zm ?_))
  refine Ze ?_
  refine Z02 (Z01 ?_)
  refine Zk [1, 5, 6, 9, 12, 15, 16, 71] ?_
  (first | refine Z0a rfl ?_ ?_ | refine Z06 rfl ?_ ?_) <;> intro hc2
  ·refine Z00 (Zg (Z02 ?_))
   have H16 := St.frontL (l := [_]) H15
   simp only [Zca, Zna] at H16
   have H17 := St.frontL (l := [_]) H16
   simp only [Zca, Zna] at H17
   have H18 := St.del (.tail (.tail .head)) H17
   refine Z0v (8) ?_ (.cons rfl (.cons rfl (.cons rfl (.cons rfl (.cons rfl (.cons rfl .nil)))))) ?_
   ·exact ⟨H18, ZO, by rcases Z2K hk with ⟨_, rfl⟩ | ⟨h, _⟩; decide; omega⟩
   exact (.cons rfl ZN .nil)
  refine Z0c ?_
  have H19 := St.frontL (l := [_]) H15
  simp only [Zca, Zna] at H19
  have H20 := St.frontL (l := [_]) H19
  simp only [Zca, Zna] at H20
  have H21 := St.del (.tail (.tail .head)) H20
  refine Z0v (16) ?_ (.cons rfl (.cons rfl (.cons rfl (.cons rfl (.cons rfl (.cons rfl .nil)))))) ?_
  ·exact ⟨H21, ZO, by cases d <;> decide⟩
  exact (.cons rfl ZN .nil)
 rintro dg w22 ⟨H22, hdg12, hdg3⟩
 show RunC P _ _ _ (_ :: _) _
 refine Z03 (Z00 (Zm ?_))
 refine Zm ?_
 refine Zm ?_
 refine Zc func13 (ExponentP (9 + n % 2) a ZO dg ZO w22 (Z2B hT (fun k hk hf => H22.ext.block k hk hf))) ?_
 rintro _ w23 ⟨vb, e3, u, rfl, hE, hG⟩
 have H23 := hG _ _ _ _ H22
 simp only [Zca, Zna] at H23
 obtain ⟨hlu, he3⟩ := expo_len dg.toNat ZO hk hfa (by rw [Int.toNat_of_nonneg ZO]; exact hE)
 obtain ⟨A2, c2, rfl, hv2⟩ := IB.sl (t := u) (H23.io mem0)
 refine Zm ?_
 refine Zx (Zx (Zg ?_))
 refine Zg (Z02 (Z01 ?_))
 refine Zk [5, 6, 9, 12, 15, 17, 18] ?_
 refine Z03 (Z00 (Zm ?_))
 refine Zm ?_
 refine Zm ?_
 have H24 := St.frontL (l := [_, _]) H23
 simp only [Zca, Zna] at H24
 have H25 := St.frontL (l := [_, _]) H24
 simp only [Zca, Zna] at H25
 refine Zc func12 (FloatP cb L1 hL1 (9 + n % 2) A2 c2 u ZO w23 (St.rows (τ := cacW cb L1) H25) (St_argR (τ := cacW cb L1) H25 (A := As.rb 5 (.slice A2 (u).length c2) (u)) (.head _) (R := fun w1 => IB w1 (.slice A2 (u).length c2) (u)) (fun w1 h => Own.iv h))) ?_
 rintro _ w26 ⟨bb2, ro2, pl2, e2, L2, o2, rfl, hF2, hNe2, hCa2, hL2, hX⟩
 have H26 := hX _ _ _ _ H25
 simp only [cacW, List.cons_append, List.nil_append] at H26
 obtain ⟨_, he2, hb2⟩ := back_exp dg.toNat ⟨hdg3, ZO⟩ hk hfa (by rw [Int.toNat_of_nonneg ZO]; exact hE) hF2
 refine Zm ?_
 refine Zx (Zx (Zx (Zx (Zg ?_))))
 refine Zg ?_
 refine Zg ?_
 refine Zg (Z02 (Z01 ?_))
 refine Zk [9, 12, 15, 18, 19, 22] ?_
 refine Z03 (Z00 (Zm ?_))
 refine Z0Q rfl rfl func8 rfl rfl (.cons rfl .nil) (Z4q _ _) ?_
 refine Ze ?_
 refine Z0u (s := 90) (v' := .bool true) rfl (by rw [he1]; rfl) ?_
 refine Zm ?_
 refine Zm ?_
 refine Zm ?_
 refine Ze ?_
 refine Z0u (s := 94) (v' := .bool true) rfl (by rw [hb1, hwant]; simp) ?_
 refine Z1J rfl rfl rfl rfl ?_
 refine Zm ?_
 refine Zm ?_
 refine Z0Q rfl rfl func8 rfl rfl (.cons rfl .nil) (Z4q _ _) ?_
 refine Ze ?_
 refine Z0u (s := 99) (v' := .bool true) rfl (by rw [he3]; rfl) ?_
 refine Z1J rfl rfl rfl rfl ?_
 refine Zm ?_
 refine Zm ?_
 refine Z0Q rfl rfl func8 rfl rfl (.cons rfl .nil) (Z4q _ _) ?_
 refine Ze ?_
 refine Z0u (s := 104) (v' := .bool true) rfl (by rw [he2]; rfl) ?_
 refine Z1J rfl rfl rfl rfl ?_
 refine Zm ?_
 refine Zm ?_
 refine Zm ?_
 refine Ze ?_
 refine Z0u (s := 109) (v' := .bool true) rfl (by rw [hb2, hwant]; simp) ?_
 refine Z1J rfl rfl rfl rfl ?_
 refine Zg (Z02 (Z01 ?_))
 refine Zk [4] ?_
 refine Z0f ?_
 refine Z0q results3 rfl ?_
 refine ⟨_, rfl, ?_⟩
 have H29 := St.del .head (St.del (.tail .head) (St.del (.tail (.tail .head)) H26))
 exact ⟨rfl, H29.grows⟩
end Go.Proofs.YtfomhfbmmjhljaaGreatDoor.W
