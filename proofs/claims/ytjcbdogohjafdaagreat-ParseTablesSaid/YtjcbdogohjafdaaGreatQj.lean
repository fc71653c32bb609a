/- law mintagelaw09: closed texts, kind, wakes -/
import Derived.Test.YtjcbdogohjafdaaGreatQg
set_option linter.unusedVariables false
set_option linter.unusedSimpArgs false
set_option maxRecDepth 10000
namespace Go.Proofs.YtjcbdogohjafdaaGreat.W
open Go.Vc Go.RowKit Tryz
theorem IB.sl {w : World} {v : Value} {t : L8} (h : IB w v t) : ∃ A c, v = .slice A t.length c ∧ IB w (.slice A t.length c) t := by
 obtain ⟨A, c, e, h2, h3⟩ := h
 rw [show (bys t).length = t.length from by simp [bys]] at e
 exact ⟨A, c, e, A, c, by rw [show (bys t).length = t.length from by simp [bys]], h2, h3⟩
def rnF (d : Kd) (N D b0 : Int) : Int × Bool × Int := if (if upR d.H N D b0 then b0 + 1 else b0) ≤ d.I - 1 then (if upR d.H N D b0 then b0 + 1 else b0, decide (fv d.H b0 * D = N), 0) else (0, false, 34)
theorem rn_of {d : Kd} {N D b0 : Int} (hD : 0 < D) (h0 : 0 ≤ b0) (h1 : fv d.H b0 * D ≤ N) (h2 : N < fv d.H (b0 + 1) * D) : RndR d.H (d.I - 1) N D (rnF d N D b0) := by
 have hI := d.I_lt
 exact RndR.of (by omega) hD (by omega) hI.2.1 h0 h1 h2
def tbN (d : Kd) (A x : Int) : Int := A * 2 ^ (tbE x).toNat * 2 ^ d.l
def tbD (x : Int) : Int := 2 ^ (-(tbE x)).toNat
theorem tb_of {d : Kd} {A x b0 : Int} (h : 0 ≤ b0 ∧ fv d.H b0 * tbD x ≤ tbN d A x ∧ tbN d A x < fv d.H (b0 + 1) * tbD x) : tabT d A x (rnF d (tbN d A x) (tbD x) b0) := rn_of (Ma.pow_pos (by omega) _) h.1 h.2.1 h.2.2
theorem ag_cl {d : Kd} {man x : Int} {more : Bool} {b1 b2 : Int} (h1 : 0 ≤ b1 ∧ fv d.H b1 * tbD x ≤ tbN d (tbLo x * man) x ∧ tbN d (tbLo x * man) x < fv d.H (b1 + 1) * tbD x) (h2 : 0 ≤ b2 ∧ fv d.H b2 * tbD x ≤ tbN d (tbHi x * mrF man more) x ∧ tbN d (tbHi x * mrF man more) x < fv d.H (b2 + 1) * tbD x)
  (hr : (rnF d (tbN d (tbLo x * man) x) (tbD x) b1).2.2 = (rnF d (tbN d (tbHi x * mrF man more) x) (tbD x) b2).2.2 ∧ (rnF d (tbN d (tbLo x * man) x) (tbD x) b1).1 = (rnF d (tbN d (tbHi x * mrF man more) x) (tbD x) b2).1) : agP d man x more := ⟨_, _, tb_of h1, tb_of h2, hr⟩
theorem nag_cl {d : Kd} {man x : Int} {more : Bool} {b1 b2 : Int} (h1 : 0 ≤ b1 ∧ fv d.H b1 * tbD x ≤ tbN d (tbLo x * man) x ∧ tbN d (tbLo x * man) x < fv d.H (b1 + 1) * tbD x) (h2 : 0 ≤ b2 ∧ fv d.H b2 * tbD x ≤ tbN d (tbHi x * mrF man more) x ∧ tbN d (tbHi x * mrF man more) x < fv d.H (b2 + 1) * tbD x)
  (hr : ¬ ((rnF d (tbN d (tbLo x * man) x) (tbD x) b1).2.2 = (rnF d (tbN d (tbHi x * mrF man more) x) (tbD x) b2).2.2 ∧ (rnF d (tbN d (tbLo x * man) x) (tbD x) b1).1 = (rnF d (tbN d (tbHi x * mrF man more) x) (tbD x) b2).1)) : ¬ agP d man x more := fun h => hr ((agP.iff (tb_of h1) (tb_of h2)).1 h)
theorem fl_wd {t : L8} {k bb road place e wd man x : Int} {d : Kd} {ng more : Bool} (h : FlR t k bb road place e) (hk : kd k = some d) (hs : scanF t = (ng, wd, man, x, more, 0, 0)) (hw : wdP wd man) : bb = spF d ng wd ∧ road = 1 ∧ place = 0 ∧ e = 0 := by
 cases h with
 | kind h2 => rw [hk] at h2; cases h2
 | err h2 hsc he => obtain ⟨_, _, _, _, _, _, h3⟩ := Z2J hsc hs; exact absurd h3 he
 | word h2 hsc _ =>
  obtain ⟨rfl, rfl, _⟩ := Z2J hsc hs
  rw [hk] at h2; cases h2
  exact ⟨rfl, rfl, rfl, rfl⟩
 | num h2 hsc H2 _ _ =>
  obtain ⟨_, rfl, rfl, _⟩ := Z2J hsc hs
  exact absurd hw H2
theorem fl_cl {t : L8} {k bb road place e man x x1 n xx b0 : Int} {d : Kd} {ng more : Bool} {W F : L8} (h : FlR t k bb road place e) (hk : kd k = some d) (hs : scanF t = (ng, 0, man, x1, more, 0, 0)) (hm : ¬ man = 0) (hr : Z3G t = (ng, 0, W, F, x, 0, 0)) (hne : ¬ Z0P (W ++ F) = [])
  (hn : pv (Z0P (W ++ F)) = n) (hxx : x - F.length = xx) (hb : 0 ≤ b0 ∧ fv d.H b0 * 10 ^ (-xx).toNat ≤ n * 10 ^ xx.toNat * 2 ^ d.l ∧ n * 10 ^ xx.toNat * 2 ^ d.l < fv d.H (b0 + 1) * 10 ^ (-xx).toNat) {res : Int × Bool × Int} (hres : rnF d (n * 10 ^ xx.toNat * 2 ^ d.l) (10 ^ (-xx).toNat) b0 = res) :
  bb = (if res.2.2 = 0 then sgF d ng res.1 else 0) ∧ road = Z4M d k man x1 more ∧ place = 0 ∧ e = (if res.2.2 = 0 then 0 else 90) := by
 cases h with
 | kind h2 => rw [hk] at h2; cases h2
 | err h2 hsc he => obtain ⟨_, _, _, _, _, _, h3⟩ := Z2J hsc hs; exact absurd h3 he
 | word h2 hsc hw =>
  obtain ⟨_, rfl, rfl, _⟩ := Z2J hsc hs
  unfold wdP at hw
  omega
 | num h2 hsc H2 hx ht =>
  obtain ⟨rfl, rfl, rfl, rfl, rfl, rfl, _⟩ := Z2J hsc hs
  rw [hk] at h2; cases h2
  have hro := Z4R t
  rw [hr] at hro
  obtain ⟨rfl, rfl, _⟩ := hx.unique (ExR.num hro hne)
  rw [hn, hxx] at ht
  have h3 : fltT d n xx res := by rw [← hres]; exact rn_of (Ma.pow_pos ZO _) hb.1 hb.2.1 hb.2.2
  rw [ht.unique h3]
  exact ⟨rfl, rfl, rfl, rfl⟩
theorem wk1 {bb road place e : Int} (h : FlR [45, 48] 10 bb road place e) : bb = 9223372036854775808 ∧ road = 1 ∧ place = 0 ∧ e = 0 := fl_wd (d := .f64) (wd := 0) (man := 0) (x := 0) (more := false) (ng := true) h rfl (by decide +kernel) (by decide)
theorem wk2 {bb road place e : Int} (h : FlR [48, 46, 49] 10 bb road place e) : bb = 4591870180066957722 ∧ road = 2 ∧ place = 0 ∧ e = 0 := by
 have h1 := fl_cl (d := .f64) (n := 1) (xx := -1) (b0 := 4591870180066957721) (W := [48]) (F := [49]) (x := 0) (man := 1) (x1 := -1) (more := false) (ng := false) (res := (4591870180066957722, false, 0)) h rfl (by decide +kernel) (by decide) (by decide +kernel) (by decide +kernel) (by decide +kernel) (by decide) (by decide +kernel) (by decide +kernel)
 rw [roadS_2 (by decide)] at h1
 exact h1
theorem wk3 {bb road place e : Int} (h : FlR [49, 101, 50, 51] 10 bb road place e) : bb = 4950912855330343670 ∧ road = 3 ∧ place = 0 ∧ e = 0 := by
 have h1 := fl_cl (d := .f64) (n := 1) (xx := 23) (b0 := 4950912855330343670) (W := [49]) (F := []) (x := 23) (man := 1) (x1 := 23) (more := false) (ng := false) (res := (4950912855330343670, false, 0)) h rfl (by decide +kernel) (by decide) (by decide +kernel) (by decide +kernel) (by decide +kernel) (by decide) (by decide +kernel) (by decide +kernel)
 rw [roadS_3 (by decide) (by decide) (ag_cl (b1 := 4950912855330343670) (b2 := 4950912855330343670) (by decide +kernel) (by decide +kernel) (by decide +kernel))] at h1
 exact h1
theorem wk4 {bb road place e : Int} (h : FlR [57, 48, 48, 55, 49, 57, 57, 50, 53, 52, 55, 52, 48, 57, 57, 50, 46, 57, 57, 57, 57, 57, 57, 57, 57, 57, 57, 57, 57, 57, 57, 57, 57, 57, 57, 57, 57] 10 bb road place e) : bb = 4845873199050653696 ∧ road = 4 ∧ place = 0 ∧ e = 0 := by
 have h1 := fl_cl (d := .f64) (n := 900719925474099299999999999999999999) (xx := -20) (b0 := 4845873199050653696) (W := [57, 48, 48, 55, 49, 57, 57, 50, 53, 52, 55, 52, 48, 57, 57, 50]) (F := [57, 57, 57, 57, 57, 57, 57, 57, 57, 57, 57, 57, 57, 57, 57, 57, 57, 57, 57, 57]) (x := 0) (man := 9007199254740992999) (x1 := -3) (more := true) (ng := false) (res := (4845873199050653696, false, 0)) h rfl (by decide +kernel) (by decide) (by decide +kernel) (by decide +kernel) (by decide +kernel) (by decide) (by decide +kernel) (by decide +kernel)
 rw [roadS_4 (by decide) (fun _ => nag_cl (b1 := 4845873199050653696) (b2 := 4845873199050653696) (by decide +kernel) (by decide +kernel) (by decide +kernel))] at h1
 exact h1
theorem Z32 (x : Int) (w : World) :
  Z0g P 18 [.int .i64 x] w fun r w' => r = .int .i64 x ∧ w = w' := by
 refine Z0o func18 rfl ntmps18 rfl ?_
 refine Z03 (Z00 (Zg (Z02 (Z01 (Z03 (Z00 ?_))))))
 refine Zm ?_
 refine Zg (Z02 (Z01 ?_))
 refine Zk [2] ?_
 refine Z0f ?_
 refine Z0l results18 rfl ?_
 refine ⟨_, rfl, ?_⟩
 exact ⟨rfl, rfl⟩
theorem kindL9 (n : Int) (w : World) :
  Z0g P 15 [.int .i64 n] w fun r w' => ∃ k, r = .int .i64 k ∧ w = w' := by
 refine Z0o func15 rfl ntmps15 rfl ?_
 refine Z03 (Z00 (Zg (Z02 (Z01 (Z03 (Z03 (Z00 ?_)))))))
 refine Zm ?_
 refine Z1d rfl rfl rfl rfl rfl (rfl) ?_
 refine Ze ?_
 refine Z02 (Z01 ?_)
 refine Zk [0, 5] ?_
 (first | refine Z08 rfl ?_ ?_ | refine Z05 rfl ?_ ?_) <;> intro hc0
 ·refine Z03 (Z00 (Zm ?_))
  refine Z1O rfl rfl rfl rfl ZO (Z1p (d := 32) (by decide) (by decide)) ?_
  refine Zg (Z02 (Z01 ?_))
  refine Z0f ?_
  refine Z06 ?_
  refine Z0l results15 rfl ?_
  refine ⟨_, rfl, ?_⟩
  exact ⟨_, rfl, rfl⟩
 refine Z09 (Z01 ?_)
 refine Zk [0] ?_
 refine Z03 (Z00 (Zm ?_))
 refine Z1d rfl rfl rfl rfl rfl (rfl) ?_
 refine Z0t rfl rfl rfl rfl (rfl) ?_
 refine Zg (Z02 (Z01 ?_))
 refine Z0f ?_
 refine Z0l results15 rfl ?_
 refine ⟨_, rfl, ?_⟩
 exact ⟨_, rfl, rfl⟩
theorem wakesL9  (w : World) :
  Z0g P 12 [] w fun r w' => r = .bool true ∧ Grow w w' [] := by
 refine Z0o func12 rfl ntmps12 rfl ?_
 have H0 := St.start w
 refine Z03 (Z00 (Zg (Z02 (Z01 (Z03 (Z00 ?_))))))
 refine Zc func11 (newC w) ?_
 rintro _ w1 ⟨b, rfl, hG⟩
 have H1 := hG _ _ _ _ H0
 simp only [Zca, Zna] at H1
 refine Zg (Z02 (Z01 ?_))
 refine Zk [1] ?_
 refine Z03 (Z03 (Z00 (Zm ?_)))
 refine l_eqlp ZK rfl rfl rfl rfl ?_
 refine Z0q (s := 21) (v' := .bool false) rfl (by rfl) ?_
 refine Z02 (Z01 ?_)
 refine Z1D rfl rfl ?_
 refine Z09 (Z01 ?_)
 refine Zk [1] ?_
 refine Z03 (Z00 (Zm ?_))
 refine Z17 H1 rfl rfl underlying26 ti5 rfl (.cons rfl ZR (.cons rfl ZR .nil)) rfl rfl rfl (fun b4_1 w2 H2 => ?_)
 refine l_mark H2 rfl rfl underlying26 underlying5 rfl rfl (fun v4_2 w3 H3 => ?_)
 obtain ⟨A1, c1, rfl, hv1⟩ := IB.sl (t := [45, 48]) (H3.ii mem0)
 have H4 := St.frontL (l := [_, _]) H3
 simp only [Zca, Zna] at H4
 have H5 := St.frontL (l := [_, _]) H4
 simp only [Zca, Zna] at H5
 refine Z0N rfl rfl func16 rfl rfl (.cons rfl (.cons rfl (.cons rfl .nil))) (Z2v b (List.replicate 41 none) (List.length_replicate ..) (10) A1 c1 [45, 48] (by decide) w3 (St.rows (τ := cacW b (List.replicate 41 none)) H5) (Z2B (τ := cacW b (List.replicate 41 none)) H5 (A := As.iv _ _) (.head _) (R := fun w1 => IB w1 _ [45, 48]) (fun w1 h => h))) ?_
 rintro _ w6 ⟨bb1, ro1, pl1, e1, L1, o1, rfl, hF1, hNe1, hCa1, hL1, hX⟩
 have H6 := hX _ _ _ _ H5
 simp only [cacW, List.cons_append, List.nil_append] at H6
 obtain ⟨rfl, rfl, rfl, rfl⟩ := wk1 hF1
 refine Zm ?_
 refine Zx (Zx (Zx (Zx (Zg ?_))))
 refine Zg ?_
 refine Zg ?_
 refine Zg (Z02 (Z01 (Z03 (Z00 ?_))))
 refine Zm ?_
 refine Z17 H6 rfl rfl underlying26 ti5 rfl (.cons rfl ZR (.cons rfl ZR (.cons rfl ZR .nil))) rfl rfl rfl (fun b5_1 w7 H7 => ?_)
 refine l_mark H7 rfl rfl underlying26 underlying5 rfl rfl (fun v5_2 w8 H8 => ?_)
 obtain ⟨A2, c2, rfl, hv2⟩ := IB.sl (t := [48, 46, 49]) (H8.ii mem0)
 have H9 := St.frontL (l := [_, _]) H8
 simp only [Zca, Zna] at H9
 have H10 := St.frontL (l := [_, _]) H9
 simp only [Zca, Zna] at H10
 refine Z0N rfl rfl func16 rfl rfl (.cons rfl (.cons rfl (.cons rfl .nil))) (Z2v b L1 hL1 (10) A2 c2 [48, 46, 49] (by decide) w8 (St.rows (τ := cacW b L1) H10) (Z2B (τ := cacW b L1) H10 (A := As.iv _ _) (.head _) (R := fun w1 => IB w1 _ [48, 46, 49]) (fun w1 h => h))) ?_
 rintro _ w11 ⟨bb2, ro2, pl2, e2, L2, o2, rfl, hF2, hNe2, hCa2, hL2, hX⟩
 have H11 := hX _ _ _ _ H10
 simp only [cacW, List.cons_append, List.nil_append] at H11
 obtain ⟨rfl, rfl, rfl, rfl⟩ := wk2 hF2
 refine Zm ?_
 refine Zx (Zx (Zx (Zx (Zg ?_))))
 refine Zg ?_
 refine Zg ?_
 refine Zg (Z02 (Z01 ?_))
 refine Zk [1, 2, 3, 5, 6, 7, 9] ?_
 refine Z03 (Z00 (Zm ?_))
 refine Z17 H11 rfl rfl underlying26 ti5 rfl (.cons rfl ZR (.cons rfl ZR (.cons rfl ZR (.cons rfl ZR .nil)))) rfl rfl rfl (fun b6_1 w12 H12 => ?_)
 refine l_mark H12 rfl rfl underlying26 underlying5 rfl rfl (fun v6_2 w13 H13 => ?_)
 obtain ⟨A3, c3, rfl, hv3⟩ := IB.sl (t := [49, 101, 50, 51]) (H13.ii mem0)
 have H14 := St.frontL (l := [_, _]) H13
 simp only [Zca, Zna] at H14
 have H15 := St.frontL (l := [_, _]) H14
 simp only [Zca, Zna] at H15
 refine Z0N rfl rfl func16 rfl rfl (.cons rfl (.cons rfl (.cons rfl .nil))) (Z2v b L2 hL2 (10) A3 c3 [49, 101, 50, 51] (by decide) w13 (St.rows (τ := cacW b L2) H15) (Z2B (τ := cacW b L2) H15 (A := As.iv _ _) (.head _) (R := fun w1 => IB w1 _ [49, 101, 50, 51]) (fun w1 h => h))) ?_
 rintro _ w16 ⟨bb3, ro3, pl3, e3, L3, o3, rfl, hF3, hNe3, hCa3, hL3, hX⟩
 have H16 := hX _ _ _ _ H15
 simp only [cacW, List.cons_append, List.nil_append] at H16
 obtain ⟨rfl, rfl, rfl, rfl⟩ := wk3 hF3
 refine Zm ?_
 refine Zx (Zx (Zx (Zx (Zg ?_))))
 refine Zg ?_
 refine Zg ?_
 refine Zg (Z02 (Z01 (Z03 (Z00 ?_))))
 refine Zm ?_
 refine Z17 H16 rfl rfl underlying26 ti5 rfl (.cons rfl ZR (.cons rfl ZR (.cons rfl ZR (.cons rfl ZR (.cons rfl ZR (.cons rfl ZR (.cons rfl ZR (.cons rfl ZR (.cons rfl ZR (.cons rfl ZR (.cons rfl ZR (.cons rfl ZR (.cons rfl ZR (.cons rfl ZR (.cons rfl ZR (.cons rfl ZR (.cons rfl ZR (.cons rfl ZR (.cons rfl ZR (.cons rfl ZR (.cons rfl ZR (.cons rfl ZR (.cons rfl ZR (.cons rfl ZR (.cons rfl ZR (.cons rfl ZR (.cons rfl ZR (.cons rfl ZR (.cons rfl ZR (.cons rfl ZR (.cons rfl ZR (.cons rfl ZR (.cons rfl ZR (.cons rfl ZR (.cons rfl ZR (.cons rfl ZR (.cons rfl ZR .nil))))))))))))))))))))))))))))))))))))) rfl rfl rfl (fun b7_1 w17 H17 => ?_)
 refine l_mark H17 rfl rfl underlying26 underlying5 rfl rfl (fun v7_2 w18 H18 => ?_)
 obtain ⟨A4, c4, rfl, hv4⟩ := IB.sl (t := [57, 48, 48, 55, 49, 57, 57, 50, 53, 52, 55, 52, 48, 57, 57, 50, 46, 57, 57, 57, 57, 57, 57, 57, 57, 57, 57, 57, 57, 57, 57, 57, 57, 57, 57, 57, 57]) (H18.ii mem0)
 have H19 := St.frontL (l := [_, _]) H18
 simp only [Zca, Zna] at H19
 have H20 := St.frontL (l := [_, _]) H19
 simp only [Zca, Zna] at H20
 refine Z0N rfl rfl func16 rfl rfl (.cons rfl (.cons rfl (.cons rfl .nil))) (Z2v b L3 hL3 (10) A4 c4 [57, 48, 48, 55, 49, 57, 57, 50, 53, 52, 55, 52, 48, 57, 57, 50, 46, 57, 57, 57, 57, 57, 57, 57, 57, 57, 57, 57, 57, 57, 57, 57, 57, 57, 57, 57, 57] (by decide) w18 (St.rows (τ := cacW b L3) H20) (Z2B (τ := cacW b L3) H20 (A := As.iv _ _) (.head _) (R := fun w1 => IB w1 _ [57, 48, 48, 55, 49, 57, 57, 50, 53, 52, 55, 52, 48, 57, 57, 50, 46, 57, 57, 57, 57, 57, 57, 57, 57, 57, 57, 57, 57, 57, 57, 57, 57, 57, 57, 57, 57]) (fun w1 h => h))) ?_
 rintro _ w21 ⟨bb4, ro4, pl4, e4, L4, o4, rfl, hF4, hNe4, hCa4, hL4, hX⟩
 have H21 := hX _ _ _ _ H20
 simp only [cacW, List.cons_append, List.nil_append] at H21
 obtain ⟨rfl, rfl, rfl, rfl⟩ := wk4 hF4
 refine Zm ?_
 refine Zx (Zx (Zx (Zx (Zg ?_))))
 refine Zg ?_
 refine Zg ?_
 refine Zg (Z02 (Z01 ?_))
 refine Zk [2, 3, 5, 6, 7, 9, 10, 11, 13, 14, 15, 17] ?_
 refine Z03 (Z00 (Zm ?_))
 refine Ze ?_
 refine Z0q (s := 59) (v' := .bool true) rfl (by simp) ?_
 refine Zm ?_
 refine Zm ?_
 refine Ze ?_
 refine Z0q (s := 62) (v' := .bool true) rfl (by simp) ?_
 refine Z0Y rfl rfl rfl rfl ?_
 refine Zm ?_
 refine Zm ?_
 refine Ze ?_
 refine Z0q (s := 66) (v' := .bool true) rfl (by simp) ?_
 refine Z0Y rfl rfl rfl rfl ?_
 refine Zm ?_
 refine Zm ?_
 refine Ze ?_
 refine Z0q (s := 70) (v' := .bool true) rfl (by simp) ?_
 refine Z0Y rfl rfl rfl rfl ?_
 refine Zg (Z02 (Z01 (Z03 (Z00 ?_))))
 refine Zm ?_
 refine Zm ?_
 refine Zm ?_
 refine Ze ?_
 refine Z0q (s := 75) (v' := .bool true) rfl (by simp) ?_
 refine Z0Y rfl rfl rfl rfl ?_
 refine Zm ?_
 refine Zm ?_
 refine Ze ?_
 refine Z0q (s := 79) (v' := .bool true) rfl (by simp) ?_
 refine Z0Y rfl rfl rfl rfl ?_
 refine Zm ?_
 refine Zm ?_
 refine Ze ?_
 refine Z0q (s := 83) (v' := .bool true) rfl (by simp) ?_
 refine Z0Y rfl rfl rfl rfl ?_
 refine Zm ?_
 refine Zm ?_
 refine Ze ?_
 refine Z0q (s := 87) (v' := .bool true) rfl (by simp) ?_
 refine Z0Y rfl rfl rfl rfl ?_
 refine Zm ?_
 refine Zm ?_
 refine Z0J rfl rfl func18 rfl rfl (.cons rfl .nil) (Z32 _ _) ?_
 refine Ze ?_
 refine Z0q (s := 92) (v' := .bool true) rfl (by simp) ?_
 refine Z0Y rfl rfl rfl rfl ?_
 refine Zm ?_
 refine Zm ?_
 refine Z0J rfl rfl func18 rfl rfl (.cons rfl .nil) (Z32 _ _) ?_
 refine Ze ?_
 refine Z0q (s := 97) (v' := .bool true) rfl (by simp) ?_
 refine Z0Y rfl rfl rfl rfl ?_
 refine Zm ?_
 refine Zm ?_
 refine Z0J rfl rfl func18 rfl rfl (.cons rfl .nil) (Z32 _ _) ?_
 refine Ze ?_
 refine Z0q (s := 102) (v' := .bool true) rfl (by simp) ?_
 refine Z0Y rfl rfl rfl rfl ?_
 refine Zm ?_
 refine Zm ?_
 refine Z0J rfl rfl func18 rfl rfl (.cons rfl .nil) (Z32 _ _) ?_
 refine Ze ?_
 refine Z0q (s := 107) (v' := .bool true) rfl (by simp) ?_
 refine Z0Y rfl rfl rfl rfl ?_
 refine Zg (Z02 (Z01 ?_))
 refine Zk [0] ?_
 refine Z0f ?_
 refine Z0l results12 rfl ?_
 refine ⟨_, rfl, ?_⟩
 have H27 := St.del .head (St.del (.tail .head) (St.del (.tail (.tail .head)) (St.del (.tail (.tail (.tail .head))) (St.del (.tail (.tail (.tail (.tail .head)))) (St.del (.tail (.tail (.tail (.tail (.tail .head))))) H21)))))
 exact ⟨rfl, H27.grows⟩
theorem parseTablesL (n : Int) (hn : -9223372036854775808 ≤ n ∧ n ≤ 9223372036854775807) (ng : Bool) (wd man x : Int) (more : Bool) (hman : 0 ≤ man ∧ man ≤ 18446744073709551615) (hxb : -9223372036854775808 ≤ x ∧ x ≤ 9223372036854775807) (w : World) :
  Z0g P 4 [.int .i64 n, .agg #[.bool ng, .int .i64 wd, .int .u64 man, .int .i64 x, .bool more]] w fun r w' => r = .bool true ∧ Grow w w' [] := by
 refine Z0o func4 rfl ntmps4 rfl ?_
 have H0 := St.start w
 refine Z03 (Z00 ?_)
 refine Z2f H0 rfl rfl rfl (fun b0_0 w1 H1 => ?_)
 refine Zg (Z02 (Z01 (Z03 (Z00 ?_))))
 refine Zc func11 (newC w1) ?_
 rintro _ w2 ⟨b, rfl, hG⟩
 have H2 := hG _ _ _ _ H1
 simp only [Zca, Zna] at H2
 refine Zg (Z02 (Z01 ?_))
 refine Zk [0, 3, 5] ?_
 refine Z03 (Z03 (Z00 (Zm ?_)))
 refine l_eqlp ZK rfl rfl rfl rfl ?_
 refine Z0q (s := 15) (v' := .bool false) rfl (by rfl) ?_
 refine Z02 (Z01 ?_)
 refine Z1D rfl rfl ?_
 refine Z09 (Z01 ?_)
 refine Zk [0, 3, 5] ?_
 refine Z03 (Z00 (Zm ?_))
 refine Zc func15 (kindL9 (n) w2) ?_
 rintro _ _ ⟨k, rfl, rfl⟩
 refine Zg (Z02 (Z01 (Z03 (Z00 ?_))))
 refine Zm ?_
 refine Zm ?_
 refine Z0e H2 mem2 rfl rfl underlying40 rfl tz40 rfl (.take (.take (.take (.take (.take .nil))))) ?_
 have H3 := St.frontL (l := [_]) H2
 simp only [Zca, Zna] at H3
 have H4 := St.frontL (l := [_]) H3
 simp only [Zca, Zna] at H4
 refine Zc func20 (TableP b (List.replicate 41 none) (List.length_replicate ..) k wd man x ng more hman hxb w2 (St.rows (τ := cacW b (List.replicate 41 none)) H4)) ?_
 rintro _ w5 ⟨bb, ok, e, L', rfl, hT, hC, hX⟩
 have H5 := hX _ _ _ _ H4
 simp only [cacW, List.cons_append, List.nil_append] at H5
 refine Zm ?_
 refine Zx (Zx (Zx (Zg ?_)))
 refine Zg ?_
 refine Zg (Z02 (Z01 ?_))
 refine Zk [3, 6, 7, 8, 9] ?_
 refine Z03 (Z00 (Zm ?_))
 refine Z0e H5 mem2 rfl rfl underlying40 rfl tz40 rfl (.take (.take (.take (.take (.take .nil))))) ?_
 refine Zc func21 (byTable9 k ng wd man x more hman w5) ?_
 rintro _ w6 ⟨bb2, ok2, e2, rfl, hT2, hG⟩
 have H6 := hG _ _ _ _ H5
 simp only [Zca, Zna] at H6
 obtain ⟨rfl, rfl, rfl⟩ := hT.unique hT2
 refine Zm ?_
 refine Zx (Zx (Zx (Zg ?_)))
 refine Zg ?_
 refine Zg (Z02 (Z01 (Z03 (Z00 ?_))))
 refine Zm ?_
 refine Zm ?_
 refine Ze ?_
 refine Z0q (s := 35) (v' := .bool true) rfl (by simp) ?_
 refine Zm ?_
 refine Zm ?_
 refine Zm ?_
 refine l_eqlb underlying4 rfl rfl rfl rfl ?_
 refine Z0q (s := 39) (v' := .bool true) rfl (by simp) ?_
 refine Z0Y rfl rfl rfl rfl ?_
 refine Zm ?_
 refine Zm ?_
 refine Z0J rfl rfl func18 rfl rfl (.cons rfl .nil) (Z32 _ _) ?_
 refine Zm ?_
 refine Ze ?_
 refine Z0q (s := 45) (v' := .bool true) rfl (by simp) ?_
 refine Z0Y rfl rfl rfl rfl ?_
 refine Zm ?_
 refine Zc func12 (wakesL9 w6) ?_
 rintro _ w7 ⟨rfl, hG⟩
 have H7 := hG _ _ _ _ H6
 simp only [Zca, Zna] at H7
 refine Z0Y rfl rfl rfl rfl ?_
 refine Zg (Z02 (Z01 ?_))
 refine Zk [4] ?_
 refine Z0f ?_
 refine Z0l results4 rfl ?_
 refine ⟨_, rfl, ?_⟩
 have H10 := St.del .head (St.del (.tail .head) (St.del (.tail (.tail .head)) H7))
 exact ⟨rfl, H10.grows⟩
section
variable {P : Program} {w0 w w' w1 : World} {B : Nat} {M : Nat → Prop} {σ τ : List As}
end
theorem five_cells {cs : Array Value} {v0 v1 v2 v3 v4 : Value} (h : cs.toList.length = 5) (e0 : (cs.toList.drop 0).take 1 = [v0]) (e1 : (cs.toList.drop 1).take 1 = [v1]) (e2 : (cs.toList.drop 2).take 1 = [v2]) (e3 : (cs.toList.drop 3).take 1 = [v3]) (e4 : (cs.toList.drop 4).take 1 = [v4]) : cs = #[v0, v1, v2, v3, v4] := by
 obtain ⟨l⟩ := cs
 match l, h with
 | [a0, a1, a2, a3, a4], _ => simp_all
theorem u64_wf {n : Int} (h : (Lit.int .u64 n).wf = true) : 0 ≤ n ∧ n ≤ 18446744073709551615 := by
 simp only [Lit.wf, Bool.and_eq_true, decide_eq_true_eq] at h
 have e1 : IntKind.min .u64 = 0 := by decide
 have e2 : IntKind.max .u64 = 18446744073709551615 := by decide
 rw [e1, e2] at h
 exact h
section
open Go.ChangeShapes Go.WideShapes Go.ChangeAt Go.RowKit
end
theorem Z1h.exists (t : L8) : ∃ ng wd man x more p e, Z1h t ng wd man x more p e := by
 have hr := Z4R t
 generalize Z3G t = z at hr
 obtain ⟨ng, wd, W, F, x, p, e⟩ := z
 dsimp only at hr
 by_cases he : e = 0
 ·subst he
  by_cases hn : ¬ wd = 0 ∨ Z0P (W ++ F) = []
  ·exact ⟨_, _, _, _, _, _, _, .nil hr hn⟩
  have hw : wd = 0 := Classical.not_not.1 fun h => hn (.inl h)
  subst hw
  exact ⟨_, _, _, _, _, _, _, .num hr (fun h => hn (.inr h)) rfl⟩
 exact ⟨_, _, _, _, _, _, _, .err hr he⟩
theorem Z1W.exists (t : L8) (k : Int) : ∃ o, Z1W t k o := by
 obtain ⟨ng, wd, man, x, more, p, e, hs⟩ := Z1h.exists t
 cases hk : kd k with
 | none => exact ⟨none, .kind hk⟩
 | some d =>
  by_cases he : e = 0
  ·subst he
   by_cases hw : wdP wd man
   ·exact ⟨none, .word hk hs hw⟩
   by_cases hh : shP k man x more
   ·exact ⟨none, .short hk hs hw hh⟩
   by_cases hx : inQ x
   ·exact ⟨some x, .ask hk hs hw hh hx⟩
   exact ⟨none, .far hk hs hw hh hx⟩
  exact ⟨none, .err hk hs he⟩
theorem Z1W.in {t : L8} {k q : Int} (h : Z1W t k (some q)) : inQ q := by
 cases h with
 | ask _ _ _ _ hx => exact hx
theorem Z1h.any {t : L8} {ng more : Bool} {wd man x p e : Int} (h : Z1h t ng wd man x more p e) : 0 ≤ man ∧ man ≤ 18446744073709551615 ∧ -110000 ≤ x ∧ x ≤ 110000 := by
 by_cases he : e = 0
 ·subst he; exact h.bds
 cases h with
 | err _ _ => omega
 | nil _ _ => exact absurd rfl he
 | num _ _ _ => exact absurd rfl he
def Sgn (z : L8) (neg : Bool) : Prop := (z = [] ∧ neg = false) ∨ (z = [43] ∧ neg = false) ∨ (z = [45] ∧ neg = true)
theorem dig_nosgn : ∀ c : UInt8, isd c = true → sgn c = false := all8 (by decide +kernel)
theorem run_app {W R : L8} (hW : ∀ c ∈ W, isD c) (hR : R = [] ∨ isd (R.getD 0 0) = false) : run (W ++ R) = W.length := by
 refine Z4j _ _ (fun j hj => ?_) (by simp) (fun h => ?_)
 ·have : (W ++ R).getD j 0 = W.getD j 0 := by simp [List.getD, List.getElem?_append_left hj]
  rw [this]; exact hW _ (Z2K hj)
 have e : (W ++ R).getD W.length 0 = R.getD 0 0 := by
  unfold List.getD
  rw [List.getElem?_append_right (Nat.le_refl _), Nat.sub_self]
 rw [e, Z2E]
 rcases hR with rfl | hR
 ·simp at h
 rw [hR]; decide
theorem sg_app {z r : L8} {neg : Bool} (hz : Sgn z neg) (hr : r = [] ∨ sgn (r.getD 0 0) = false) : sg (z ++ r) 0 = z.length ∧ ngb (z ++ r) = neg := by
 rcases hz with ⟨rfl, rfl⟩ | ⟨rfl, rfl⟩ | ⟨rfl, rfl⟩
 ·have h1 : ¬ (0 < r.length ∧ sgP r 0) := fun h => by
   rcases hr with rfl | hr
   ·simp at h
   have := (Z4f r 0).1 h.2; rw [hr] at this; cases this
  refine ⟨Z51 h1, ?_⟩
  unfold ngb
  rw [decide_eq_false_iff_not]
  intro e
  rcases hr with rfl | hr
  ·simp at e
  have e2 : r.getD 0 0 = 45 := (Z1R (d := 45)).1 e
  simp only [List.nil_append] at e
  rw [e2] at hr
  cases hr
 ·refine ⟨Z2F (by simp) (.inl rfl), ?_⟩
  show decide (((43 : UInt8).toNat : Int) = 45) = false
  decide
 refine ⟨Z2F (by simp) (.inr rfl), ?_⟩
 show decide (((45 : UInt8).toNat : Int) = 45) = true
 decide
structure Form (s : L8) (neg : Bool) (W F : L8) (x : Int) : Prop where
 ex : ∃ z pt ex : L8, Sgn z neg ∧ (∀ c ∈ W, isD c) ∧ (∀ c ∈ F, isD c) ∧ (W ≠ [] ∨ F ≠ []) ∧ ((pt = [] ∧ F = []) ∨ pt = [46]) ∧
  ((ex = [] ∧ x = 0) ∨ ∃ (c : UInt8) (zE E : L8) (en : Bool), ex = c :: (zE ++ E) ∧ (c = 101 ∨ c = 69) ∧ Sgn zE en ∧ (∀ d ∈ E, isD d) ∧ E ≠ [] ∧ x = expS en E) ∧ s = z ++ (W ++ (pt ++ (F ++ ex)))
theorem ne_getD {W R : L8} (h : W ≠ []) : (W ++ R).getD 0 0 = W.getD 0 0 := by
 cases W with
 | nil => exact absurd rfl h
 | cons c W => rfl
theorem Form.rc {s : L8} {neg : Bool} {W F : L8} {x : Int} (h : Form s neg W F x) : ∃ en E, RC s neg 0 W F en E true ∧ x = expS en E := by
 obtain ⟨z, pt, ex, hz, hW, hF, hne, hpt, hex, rfl⟩ := h.ex
 have hex0 : ex = [] ∨ (isd (ex.getD 0 0) = false ∧ ¬ ex.getD 0 0 = 46) := by
  rcases hex with ⟨rfl, _⟩ | ⟨c, zE, E, en, rfl, hc, _⟩
  ·exact .inl rfl
  right
  rcases hc with rfl | rfl
  ·exact ⟨show isd (101 : UInt8) = false from by decide, show ¬ (101 : UInt8) = 46 from by decide⟩
  exact ⟨show isd (69 : UInt8) = false from by decide, show ¬ (69 : UInt8) = 46 from by decide⟩
 -- what follows the digits ahead
 have hR0 : pt ++ (F ++ ex) = [] ∨ isd ((pt ++ (F ++ ex)).getD 0 0) = false := by
  rcases hpt with ⟨rfl, rfl⟩ | rfl
  ·rcases hex0 with h | h
   ·exact .inl (by simp [h])
   exact .inr (by simpa using h.1)
  exact .inr (show isd (46 : UInt8) = false from by decide)
 have hrunW := run_app hW hR0
 -- the first byte behind the sign
 have hb0 : isd ((W ++ (pt ++ (F ++ ex))).getD 0 0) = true ∨ (W ++ (pt ++ (F ++ ex))).getD 0 0 = 46 := by
  by_cases hw : W = []
  ·subst hw
   rcases hpt with ⟨_, hf⟩ | rfl
   ·rcases hne with h | h
    ·exact absurd rfl h
    exact absurd hf h
   exact .inr rfl
  rw [ne_getD hw]
  exact .inl ((Z2E _).1 (hW _ (Z2K (List.length_pos_iff.2 hw))))
 have hns : sgn ((W ++ (pt ++ (F ++ ex))).getD 0 0) = false := by
  rcases hb0 with h | h
  ·exact dig_nosgn _ h
  rw [h]; decide
 obtain ⟨hsg, hng⟩ := sg_app hz (.inr hns)
 have eb : W ++ (pt ++ (F ++ ex)) = (z ++ (W ++ (pt ++ (F ++ ex)))).drop (sg (z ++ (W ++ (pt ++ (F ++ ex)))) 0) := by rw [hsg, List.drop_left]
 have hword : ¬ Z3E (W ++ (pt ++ (F ++ ex))) := fun h => by
  rw [word_iff] at h
  have := Z4Y (b := W ++ (pt ++ (F ++ ex))) (.inr hb0)
  omega
 have htk : (W ++ (pt ++ (F ++ ex))).take (run (W ++ (pt ++ (F ++ ex)))) = W := by rw [hrunW, List.take_left]
 have hdr : (W ++ (pt ++ (F ++ ex))).drop (run (W ++ (pt ++ (F ++ ex)))) = pt ++ (F ++ ex) := by rw [hrunW, List.drop_left]
 have hfs : Fs ((W ++ (pt ++ (F ++ ex))).drop (run (W ++ (pt ++ (F ++ ex))))) F ex := by
  rw [hdr]
  rcases hpt with ⟨rfl, rfl⟩ | rfl
  ·simp only [List.nil_append]
   exact .no (hex0.imp id fun h => h.2)
  have h1 := Fs.yes (R := [46] ++ (F ++ ex)) (by simp) rfl
  have h2 : ([46] ++ (F ++ ex)).drop 1 = F ++ ex := rfl
  have hrunF := run_app hF (hex0.imp id fun h => h.1)
  rw [h2, hrunF, List.take_left, List.drop_left] at h1
  exact h1
 have hzz : ¬ ((W ++ (pt ++ (F ++ ex))).take (run (W ++ (pt ++ (F ++ ex)))) = [] ∧ F = []) := by
  rw [htk]
  rintro ⟨h1, h2⟩
  rcases hne with h | h
  ·exact h h1
  exact h h2
 rcases hex with ⟨rfl, rfl⟩ | ⟨c, zE, E, en, rfl, hc, hzE, hE, hE0, rfl⟩
 ·refine ⟨false, [], ?_, rfl⟩
  have := RC.plain eb hword hfs hzz rfl
  rw [hng, htk] at this
  exact this
 have hEs : E = [] ∨ sgn (E.getD 0 0) = false := .inr (dig_nosgn _ ((Z2E _).1 (hE _ (Z2K (List.length_pos_iff.2 hE0)))))
 obtain ⟨hs1, hn1⟩ := sg_app hzE hEs
 have hd1 : (c :: (zE ++ E)).drop 1 = zE ++ E := rfl
 have hrunE : run E = E.length := by have := run_app hE (R := []) (.inl rfl); rwa [List.append_nil] at this
 have := RC.exp (E := E) eb hword hfs hzz (by simp) hc (by rw [hd1, hs1, List.drop_left])
 rw [hng, htk, hd1, hn1, hrunE, List.take_length, List.drop_length, decide_eq_true ⟨hE0, rfl⟩] at this
 exact ⟨en, E, this, rfl⟩
theorem Form.read {s : L8} {neg : Bool} {W F : L8} {x : Int} (h : Form s neg W F x) (hl : s.length ≤ 1024) : Z1S s neg 0 W F x 0 0 := by
 obtain ⟨en, E, hc, rfl⟩ := h.rc
 obtain ⟨ng', hr, hng⟩ := hc.read hl
 have : neg = ng' := by rw [hng]; cases ng' <;> rfl
 rw [this]
 exact hr
def numG (neg : Bool) (L : L8) (fl : Nat) (x : Int) : Bool × Int × Int × Int × Bool × Int × Int :=
 if L = [] then (neg, 0, 0, 0, false, 0, 0) else (neg, 0, pv (L.take (L.length - (L.length - 19))), x - fl + ((L.length - 19 : Nat) : Int), (L.drop (L.length - (L.length - 19))).any (fun c => !decide (c = 48)), 0, 0)
theorem Z1h.form {t : L8} {ng more neg : Bool} {wd man x p e x0 : Int} {W F : L8} (h : Z1h t ng wd man x more p e) (hf : Form t neg W F x0) (hl : t.length ≤ 1024) : (ng, wd, man, x, more, p, e) = numG neg (Z0P (W ++ F)) F.length x0 := by
 have hr := hf.read hl
 unfold numG
 cases h with
 | err hr2 he => obtain ⟨_, _, _, _, _, _, h⟩ := hr2.unique hr; exact absurd h he
 | nil hr2 hn =>
  obtain ⟨rfl, rfl, rfl, rfl, rfl, _⟩ := hr2.unique hr
  rcases hn with h | h
  ·exact absurd rfl h
  rw [if_pos h]
  congr 1
  simp
 | num hr2 hne hn =>
  obtain ⟨rfl, _, rfl, rfl, rfl, _⟩ := hr2.unique hr
  rw [if_neg hne, ← hn]
theorem expo_pv : ∀ (n : Nat) (l : L8), l.length = n → (∀ x ∈ l, isD x) → expo l = min (pv l) 99999
 | 0, l, h, _ => by
  obtain rfl := List.eq_nil_of_length_eq_zero h
  decide
 | n + 1, l, h, hd => by
  have hne : l ≠ [] := by intro e; subst e; simp at h
  have e := List.dropLast_concat_getLast hne
  have hd' : ∀ x ∈ l.dropLast, isD x := fun x hx => hd x ((List.dropLast_sublist l).subset hx)
  have ih := expo_pv n l.dropLast (by simp [h]) hd'
  have hb := (Z1i n l.dropLast (by simp [h]) hd').1
  have hl := (hd _ (List.getLast_mem hne)).le
  rw [← e, Z2j, Z2X, ih]
  omega
theorem dig_isD {r : Int} (h : 0 ≤ r ∧ r ≤ 9) : isD (dig r) := by
 have := Z2z h
 unfold isD
 omega
theorem dt0_fact : ∀ (m n : Nat), n ≤ m → (∀ x ∈ dt0 n, isD x) ∧ pv (dt0 n) = n ∧ (dt0 n).length ≤ n
 | m, 0, _ => by rw [Z1X]; simp [pv]
 | 0, n + 1, h => by omega
 | m + 1, n + 1, h => by
  have ih := dt0_fact m ((n + 1) / 10) ZO
  rw [dt0, dif_neg ZO]
  have hd := Z2z (r := (((n + 1) % 10 : Nat) : Int)) ZO
  refine ⟨fun x hx => ?_, ?_, ?_⟩
  ·rcases List.mem_append.1 hx with h1 | h1
   ·exact ih.1 x h1
   rw [List.mem_singleton.1 h1]; exact dig_isD ZO
  ·rw [Z2X, ih.2.1, hd]; omega
  rw [List.length_append]; have := ih.2.2; simp only [List.length_singleton]; omega
theorem dtx_fact {n : Int} (h : 0 ≤ n) : (∀ x ∈ dtx n, isD x) ∧ pv (dtx n) = n ∧ dtx n ≠ [] ∧ (dtx n).length ≤ n.toNat + 1 := by
 unfold dtx
 split
 ·rename_i e
  subst e
  exact ⟨fun x hx => by rw [List.mem_singleton.1 hx]; decide, by decide, by simp, by simp⟩
 have := dt0_fact n.toNat n.toNat (Nat.le_refl _)
 exact ⟨this.1, by rw [this.2.1]; omega, dt0_ne ZO, ZO⟩
theorem dg8 (c : UInt8) : 48 + (c.toNat : Int) % 10 = ((48 + c % 10 : UInt8).toNat : Int) := by
 have key : ∀ c : UInt8, 48 + c.toNat % 10 = (48 + c % 10 : UInt8).toNat := all8 (by decide +kernel)
 have := key c
 omega
theorem dgs_snoc {l : L8} {k : Nat} (h : k < l.length) : ((l.take k).map fun c => 48 + c % 10) ++ [48 + l.getD k 0 % 10] = (l.take (k + 1)).map fun c => 48 + c % 10 := by
 have e : l.getD k 0 = l[k] := by simp [List.getD, h]
 rw [List.take_succ_eq_append_getElem h, e, List.map_append]
 rfl
theorem dt0_lt : ∀ (k n : Nat), n < 10 ^ k → (dt0 n).length ≤ k
 | 0, n, h => by
  obtain rfl : n = 0 := by simpa using h
  rw [Z1X]; simp
 | k + 1, n, h => by
  by_cases h0 : n = 0
  ·rw [h0, Z1X]; simp
  rw [dt0, dif_neg h0, List.length_append]
  have := dt0_lt k (n / 10) (by rw [Nat.pow_succ] at h; omega)
  simp only [List.length_singleton]
  omega
theorem dtx_lt {n : Int} (h : 0 ≤ n ∧ n < 100000) : (dtx n).length ≤ 5 := by
 unfold dtx
 split
 ·simp
 exact dt0_lt 5 n.toNat ZO
theorem ExR.form {t : L8} {neg : Bool} {n x e x0 : Int} {W F : L8} (h : ExR t n x e) (hf : Form t neg W F x0) (hl : t.length ≤ 1024) (h0 : Z0P (W ++ F) ≠ []) : n = pv (Z0P (W ++ F)) ∧ x = x0 - F.length ∧ e = 0 := by
 have := ExR.num (hf.read hl) h0
 exact h.unique this
def vlD (l : L8) : L8 := (l.take 60).map fun c => 48 + c % 10
def vlW (l : L8) : L8 := if vlD l = [] then [48] else vlD l
def vlE (x : Int) : L8 := if x < 0 then [45] ++ dtx (0 - x) else dtx x
def vlT (l : L8) (x : Int) : L8 := vlW l ++ [101] ++ vlE x
theorem vlD_len (l : L8) : (vlD l).length ≤ 60 := by unfold vlD; rw [List.length_map, List.length_take]; omega
theorem Z3h (l : L8) : 1 ≤ (vlW l).length ∧ (vlW l).length ≤ 60 := by
 have := vlD_len l
 unfold vlW
 split
 ·simp
 rename_i h
 have := List.length_pos_iff.2 h
 omega
theorem vlW_dig (l : L8) : ∀ c ∈ vlW l, isD c := fun c hc => by
 unfold vlW at hc
 split at hc
 ·rw [List.mem_singleton.1 hc]; decide
 obtain ⟨x, _, rfl⟩ := List.mem_map.1 hc
 have := dg8 x
 unfold isD
 omega
theorem bys_snoc (l : L8) (c : UInt8) : bys l ++ [.int .u8 (c.toNat : Int)] = bys (l ++ [c]) := by simp [bys]
theorem bys_app (l m : L8) : bys l ++ bys m = bys (l ++ m) := by simp [bys]
theorem vlE_len {x : Int} (h : -400 < x ∧ x < 400) : (vlE x).length ≤ 6 := by
 unfold vlE
 split
 ·have := dtx_lt (n := 0 - x) ZO
  rw [List.length_append, List.length_singleton]
  omega
 have := dtx_lt (n := x) ZO
 omega
theorem tmod4 (x : Int) : -400 < x.tmod 400 ∧ x.tmod 400 < 400 := tmod_bd (by omega)
theorem vl_form {W F pt : L8} {x : Int} (hx : -400 < x ∧ x < 400) (hW : ∀ c ∈ W, isD c) (hF : ∀ c ∈ F, isD c) (hne : W ≠ []) (hpt : (pt = [] ∧ F = []) ∨ pt = [46]) : Form (W ++ (pt ++ (F ++ ([101] ++ vlE x)))) false W F x := by
 refine ⟨⟨[], pt, [101] ++ vlE x, .inl ⟨rfl, rfl⟩, hW, hF, .inl hne, hpt, .inr ?_, by simp⟩⟩
 unfold vlE
 by_cases h : x < 0
 ·have hf := dtx_fact (n := 0 - x) ZO
  rw [if_pos h]
  refine ⟨101, [45], _, true, rfl, .inl rfl, .inr (.inr ⟨rfl, rfl⟩), hf.1, hf.2.2.1, ?_⟩
  unfold expS
  rw [if_pos rfl, expo_pv _ _ rfl hf.1, hf.2.1]
  omega
 have hf := dtx_fact (n := x) ZO
 rw [if_neg h]
 refine ⟨101, [], _, false, rfl, .inl rfl, .inl ⟨rfl, rfl⟩, hf.1, hf.2.2.1, ?_⟩
 unfold expS
 rw [if_neg (by decide), expo_pv _ _ rfl hf.1, hf.2.1]
 omega
theorem vlT_form (l : L8) {x : Int} (hx : -400 < x ∧ x < 400) : Form (vlT l x) false (vlW l) [] x := by
 have h := vl_form (F := []) (pt := []) hx (vlW_dig l) (fun c hc => by cases hc) (List.length_pos_iff.1 (Z3h l).1) (.inl ⟨rfl, rfl⟩)
 unfold vlT
 simpa only [List.nil_append, List.append_assoc] using h
theorem vlT_len (l : L8) {x : Int} (hx : -400 < x ∧ x < 400) : (vlT l x).length ≤ 67 := by
 have h1 := Z3h l
 have h2 := vlE_len hx
 unfold vlT
 simp only [List.length_append, List.length_singleton]
 omega
theorem Z4q : ∀ l : L8, pv (Z0P l) = pv l
 | [] => rfl
 | c :: l => by
  simp only [Z0P]
  split
  ·rename_i h
   rw [Z4q l]
   have h2 := Z1r [c] l.length l rfl
   rw [show c = 48 by simpa using h] at h2 ⊢
   rw [show pv [48] = 0 from by decide, Int.zero_mul, Int.zero_add] at h2
   exact h2.symm
  rfl
theorem Z5u (d : Kd) (x : Int) : fltT d 0 x (0, true, 0) := by
 have hI := d.I_lt
 have hp := Ma.pow_pos (show (0 : Int) < 10 by omega) (-x).toNat
 have h1 : fv d.H 0 = 0 := Z3o ZO
 have h3 := Z5q (H := d.H) (b := 0) ZO ZO
 have h5 : 0 < fv d.H (0 + 1) * 10 ^ (-x).toNat := Int.mul_pos ZO hp
 have h := RndR.of (H := d.H) (G := d.I - 1) (N := 0 * 10 ^ x.toNat * 2 ^ d.l) (D := 10 ^ (-x).toNat) (b0 := 0) ZO hp ZO hI.2.1 ZO (by rw [h1]; simp) (by rw [Int.zero_mul, Int.zero_mul]; exact h5)
 have hu : ¬ upR d.H (0 * 10 ^ x.toNat * 2 ^ d.l) (10 ^ (-x).toNat) 0 := by
  unfold upR
  rw [h1, Int.zero_mul, Int.zero_mul, Int.zero_add]
  omega
 rw [if_neg hu, if_pos ZO, h1, decide_eq_true (show (0 : Int) * 10 ^ (-x).toNat = 0 * 10 ^ x.toNat * 2 ^ d.l by simp)] at h
 exact h
theorem fl_form {T : L8} {k bb road place e x : Int} {d : Kd} {W F : L8} (h : FlR T k bb road place e) (hk : kd k = some d) (hf : Form T false W F x) (hl : T.length ≤ 1024) :
  ∃ tt, fltT d (pv (W ++ F)) (x - F.length) tt ∧ bb = (if tt.2.2 = 0 then tt.1 else 0) ∧ e = (if tt.2.2 = 0 then 0 else 90) := by
 have hr := hf.read hl
 by_cases h0 : Z0P (W ++ F) = []
 ·have hs0 := Z1h.nil hr (.inr h0)
  have hp : pv (W ++ F) = 0 := by rw [← Z4q, h0]; rfl
  rw [hp]
  cases h with
  | kind h2 => rw [hk] at h2; cases h2
  | err _ hs he => obtain ⟨_, _, _, _, _, _, h3⟩ := hs.unique hs0; exact absurd h3 he
  | word h2 hs _ =>
   rw [hk] at h2; cases h2
   obtain ⟨rfl, rfl, _⟩ := hs.unique hs0
   exact ⟨_, Z5u d _, rfl, rfl⟩
  | num _ hs hw _ _ => obtain ⟨_, rfl, rfl, _⟩ := hs.unique hs0; exact absurd (.inr rfl) hw
 have hs0 := Z1h.num hr h0 rfl
 have hdg := hr.facts.1
 have hne : 0 < (Z0P (W ++ F)).length := List.length_pos_iff.2 h0
 have hh := skip0_head (W ++ F) h0
 have hlead := Z4z (t := (Z0P (W ++ F)).take ((Z0P (W ++ F)).length - ((Z0P (W ++ F)).length - 19))) (fun c hc => hdg c (Z2k (List.mem_of_mem_take hc))) (by rw [List.length_take]; omega) (fun e => hh ((Z1R (d := 48)).1 (by rw [← take_hd (Z0P (W ++ F)) (show 0 < (Z0P (W ++ F)).length - ((Z0P (W ++ F)).length - 19) by omega)]; exact e)))
 have hpos := Ma.pow_pos (show (0 : Int) < 10 by omega) (((Z0P (W ++ F)).take ((Z0P (W ++ F)).length - ((Z0P (W ++ F)).length - 19))).length - 1)
 cases h with
 | kind h2 => rw [hk] at h2; cases h2
 | err _ hs he => obtain ⟨_, _, _, _, _, _, h3⟩ := hs.unique hs0; exact absurd h3 he
 | word _ hs hw =>
  obtain ⟨_, rfl, rfl, _⟩ := hs.unique hs0
  unfold wdP at hw
  omega
 | num h2 hs hw hx ht =>
  rw [hk] at h2; cases h2
  obtain ⟨rfl, _⟩ := hs.unique hs0
  obtain ⟨rfl, rfl, _⟩ := hx.unique (ExR.num hr h0)
  rw [Z4q] at ht
  exact ⟨_, ht, rfl, rfl⟩
theorem valueL9 (u : Value) (l : L8) (x : Int) (hx : -400 < x ∧ x < 400) (w : World) (hv : IB w u l) :
  Z0g P 31 [u, .int .i64 x] w fun r w' => ∃ v, r = v ∧ Grow w w' [As.rb 5 v (vlT l x)] := by
 refine Z0o func31 rfl ntmps31 rfl ?_
 have H0 := St.start w
 have hwl := Z3h l
 have hdl := vlD_len l
 refine Z03 (Z00 (Zg (Z02 (Z01 (Z03 (Z00 ?_))))))
 refine Zg (Z02 (Z01 (Z03 (Z03 (Z00 ?_)))))
 have H1 := H0.nil 5
 refine Zg (Z02 (Z01 (Z0c ?_)))
 refine Z0v (ι := Nat × Value) (fun (z0 : Nat × Value) => match z0 with | ⟨k, vs⟩ => l.length - k) (fun (z0 : Nat × Value) (w' : World) => match z0 with | ⟨k, vs⟩ => St w w.heap.size Z0B ([As.rb 5 vs ((l.take k).map fun c => 48 + c % 10)]) w' ∧ k ≤ l.length ∧ k ≤ 60) (fun (z0 : Nat × Value) => match z0 with | ⟨k, vs⟩ => [(5, vs), (6, .int .i64 (k : Int))]) [0, 1] (0, .slice none 0 0) ?_ (.cons rfl (.cons rfl .nil)) ?_ ?_
 ·exact ⟨H1, ZO, ZO⟩
 ·exact (.cons rfl ZN (.cons rfl ZN .nil))
 rintro ⟨k, vs⟩ w2 ⟨H2, hk, hk6⟩
 show RunC P _ _ _ (_ :: _) _
 refine Z03 (Z03 (Z00 (Zm ?_)))
 refine Zm ?_
 refine Z0I rfl rfl underlying26 rfl (by first | exact H2.io mem0 | exact H2.iarg hv | assumption) ?_
 refine Zl ?_
 refine Zm ?_
 apply Z13 2 [0, 1, 5, 6] rfl rfl (.cons rfl (.cons rfl (.cons rfl (.cons rfl (.cons rfl .nil))))) rfl rfl (fun _ => rfl) rfl rfl rfl
 ·intro hg3_5
  refine Zm ?_
  refine Zl ?_
  refine Z02 ?_
  exact Z0n rfl (.cons rfl (ZT hg3_5) (.cons rfl rfl (.cons rfl rfl (.cons rfl rfl (.cons rfl rfl .nil)))))
 refine Z02 (Z01 ?_)
 refine Zk [0, 1, 5, 6, 14] ?_
 (first | refine Z08 rfl ?_ ?_ | refine Z05 rfl ?_ ?_) <;> intro hc0
 ·refine Z09 (Z01 (Z03 (Z0c (Z00 (Zm ?_)))))
  refine Zm ?_
  refine Zm ?_
  refine Z0V (j := k) rfl rfl rfl rfl underlying26 tz5 underlying5 rfl rfl (by first | exact H2.io mem0 | exact H2.iarg hv | assumption) rfl ZO ZI (fun hb5_3 => ?_)
  refine Z2x rfl rfl rfl rfl ZO (Z2P ZO) ?_
  refine Z0t rfl rfl rfl rfl (w_u8 ZO) ?_
  refine Z0q (s := 23) (v' := .int .u8 ((48 + l.getD k 0 % 10 : UInt8).toNat : Int)) rfl (by rw [← dg8]) ?_
  refine Z17 H2 rfl rfl underlying26 ti5 rfl (.cons rfl ZR .nil) rfl rfl rfl (fun b5_7 w3 H3 => ?_)
  refine Z2d H3 rfl rfl underlying26 ti5 rfl rfl rfl rfl (by first | (simp [Value.oneCell']; done) | (intro u hu; rw [List.mem_singleton.1 hu]; assumption)) (by first | (simp; done) | (simp; omega)) (by first | (simp; done) | (simp; omega)) (fun v5_8 w4 H4 => ?_)
  rw [bys_snoc, dgs_snoc ZO] at H4
  refine Zg (Z02 ?_)
  refine Z0z ?_
  refine Z01 ?_
  refine Zk [0, 1, 5, 6] ?_
  refine Z00 (Zm ?_)
  refine Z0t rfl rfl rfl rfl (Z0h ZO) ?_
  refine Zg (Z02 ?_)
  refine Z0j (i := (k, vs)) (k + 1, v5_8) ?_ ?_ (.cons rfl (.cons rfl .nil)) ?_
  ·first | omega | (simp; omega)
  ·exact ⟨H4, ZO, ZO⟩
  exact (.cons rfl ZN (.cons rfl ZN .nil))
 refine Z0y ?_
 refine Z04 ?_
 refine Z04 ?_
 refine Z0d ?_
 refine Z01 ?_
 refine Zk [1, 5] ?_
 refine Z0R (ι := Value) (fun (v8 : Value) (w' : World) => St w w.heap.size Z0B ([As.rb 5 v8 (vlW l)]) w' ∧ 1 = 1) (fun (v8 : Value) => [(5, v8)]) [1] (.cons rfl .nil) ?_ ?_
 ·refine Z03 (Z00 ?_)
  have ht : l.take k = l.take 60 := by
   by_cases h : k = 60
   ·rw [h]
   rw [List.take_of_length_le ZO, List.take_of_length_le ZO]
  have hvd : ((l.take k).map fun c => 48 + c % 10) = vlD l := by unfold vlD; rw [ht]
  rw [hvd] at H2
  refine Zm ?_
  refine Z0I rfl rfl underlying26 rfl (by first | exact H2.io mem0 | exact H2.iarg hv | assumption) ?_
  refine Ze ?_
  refine Z02 (Z01 ?_)
  refine Zk [1, 5, 28] ?_
  (first | refine Z08 rfl ?_ ?_ | refine Z05 rfl ?_ ?_) <;> intro hc1
  ·have h0 : vlD l = [] := List.eq_nil_of_length_eq_zero ZO
   refine Z00 (Zm ?_)
   refine Z17 H2 rfl rfl underlying26 ti5 rfl (.cons rfl ZR .nil) rfl rfl rfl (fun b7_1 w5 H5 => ?_)
   refine Z2d H5 rfl rfl underlying26 ti5 rfl rfl rfl rfl (by first | (simp [Value.oneCell']; done) | (intro u hu; rw [List.mem_singleton.1 hu]; assumption)) (by first | (simp; done) | (simp; omega)) (by first | (simp; done) | (simp; omega)) (fun v7_2 w6 H6 => ?_)
   refine Zg (Z02 ?_)
   refine Z0s (v7_2) ?_ (.cons rfl .nil) ?_
   ·refine ⟨?_, rfl⟩
    rw [show vlW l = [48] from if_pos h0]
    rw [h0] at H6
    exact H6
   exact (.cons rfl ZN .nil)
  have h0 : ¬ vlD l = [] := fun h => by rw [h] at hc1; exact hc1 rfl
  refine Z09 ?_
  refine Z0s (vs) ?_ (.cons rfl .nil) ?_
  ·refine ⟨?_, rfl⟩
   rw [show vlW l = vlD l from if_neg h0]
   exact H2
  exact (.cons rfl ZN .nil)
 rintro v8 w7 ⟨H7, h11⟩
 show RunC P _ _ _ (_ :: _) _
 refine Z03 (Z00 (Zm ?_))
 refine Z17 H7 rfl rfl underlying26 ti5 rfl (.cons rfl ZR .nil) rfl rfl rfl (fun b8_1 w8 H8 => ?_)
 refine Z2d H8 rfl rfl underlying26 ti5 rfl rfl rfl rfl (by first | (simp [Value.oneCell']; done) | (intro u hu; rw [List.mem_singleton.1 hu]; assumption)) (by first | (simp; done) | (simp; omega)) (by first | (simp; done) | (simp; omega)) (fun v8_2 w9 H9 => ?_)
 rw [show bys (vlW l) ++ [.int .u8 101] = bys (vlW l ++ [101]) from bys_snoc _ 101] at H9
 refine Zg (Z02 (Z01 ?_))
 refine Zk [1, 5] ?_
 refine Z0R (ι := Value × Int × L8) (fun (z0 : Value × Int × L8) (w' : World) => match z0 with | ⟨v12, y, z⟩ => St w w.heap.size Z0B ([As.rb 5 v12 (vlW l ++ [101] ++ z)]) w' ∧ z ++ dtx y = vlE x ∧ 0 ≤ y ∧ y < 400 ∧ z.length ≤ 1) (fun (z0 : Value × Int × L8) => match z0 with | ⟨v12, y, z⟩ => [(1, .int .i64 y), (5, v12)]) [] .nil ?_ ?_
 ·refine Z03 (Z00 (Zm ?_))
  refine Zl ?_
  refine Z02 (Z01 ?_)
  refine Zk [1, 5, 36] ?_
  (first | refine Z08 rfl ?_ ?_ | refine Z05 rfl ?_ ?_) <;> intro hc2
  ·refine Z03 (Z00 (Zm ?_))
   refine Z17 H9 rfl rfl underlying26 ti5 rfl (.cons rfl ZR .nil) rfl rfl rfl (fun b10_1 w10 H10 => ?_)
   refine Z2d H10 rfl rfl underlying26 ti5 rfl rfl rfl rfl (by first | (simp [Value.oneCell']; done) | (intro u hu; rw [List.mem_singleton.1 hu]; assumption)) (by first | (simp; done) | (simp; omega)) (by first | (simp; done) | (simp; omega)) (fun v10_2 w11 H11 => ?_)
   rw [show bys (vlW l ++ [101]) ++ [.int .u8 45] = bys (vlW l ++ [101] ++ [45]) from bys_snoc _ 45] at H11
   refine Zg (Z02 (Z01 (Z00 ?_)))
   refine Zm ?_
   refine Z2u rfl rfl rfl (Z0h ZO) ?_
   refine Zg (Z02 ?_)
   refine Z0s (v10_2, 0 - x, [45]) ?_ .nil ?_
   ·exact ⟨H11, by unfold vlE; rw [if_pos ZA], ZO, ZO, by simp⟩
   exact (.cons rfl ZN (.cons rfl ZN .nil))
  refine Z09 ?_
  refine Z0s (v8_2, x, []) ?_ .nil ?_
  ·refine ⟨?_, by unfold vlE; rw [if_neg ZA]; rfl, ZO, ZO, by simp⟩
   rw [List.append_nil]
   exact H9
  exact (.cons rfl ZN (.cons rfl ZN .nil))
 rintro ⟨v12, y, z⟩ w12 ⟨H12, hz, hy0, hy1, hz1⟩
 show RunC P _ _ _ (_ :: _) _
 refine Z03 (Z00 (Zm ?_))
 refine Zm ?_
 refine Z1A rfl rfl underlying3 underlying30 rfl (Z0M ZO) ?_
 refine Z17 H12 rfl rfl underlying47 ti30 rfl (.cons rfl ZR .nil) rfl rfl rfl (fun b12_3 w13 H13 => ?_)
 refine Z0N rfl rfl func76 rfl rfl (.cons rfl .nil) (numR _ [y] (U.one ZO) (by simp) w13 (H13.ibl mem0)) ?_
 rintro vn w14 ⟨_, ln, rfl, hRn, hG⟩
 have H14 := hG _ _ _ _ H13
 simp only [Zca, Zna] at H14
 have hRy : R16 ln y := by simpa [Ma.vb] using hRn
 have hby : Ma.blen y ≤ (64 : Nat) := (Ma.blen_le_iff hy0 64).2 (by rw [show (2 : Int) ^ 64 = 18446744073709551616 from by decide]; omega)
 have hdl := dtx_lt (n := y) ZO
 refine Zc func75 (digitsR vn ln y hRy (by have := hRy.len (k := 64) hby; omega) w14 (H14.io mem0)) ?_
 rintro _ w15 ⟨rfl, hG⟩
 have H15 := hG _ _ _ _ H14
 simp only [Zca, Zna] at H15
 refine Z3V H15 rfl rfl underlying9 underlying26 underlying5 rfl (fun v12_6 w16 H16 => ?_)
 have H17 := St.front3 H16
 refine Z0S H17 rfl rfl underlying26 ti5 rfl rfl rfl (by first | exact H17.io mem0 | exact H17.ii mem1 | exact H17.io mem2 | exact H17.ibl mem3 | exact H17.iarg hv | assumption) (by first | exact Z10 _ _ | exact Z1f _ | simp [Value.oneCell']) (by first | (simp; done) | (simp; omega)) (by first | (simp; done) | (simp; omega)) (fun v12_7 w18 H18 => ?_)
 rw [bys_app] at H18
 refine Zg (Z02 (Z01 ?_))
 refine Zk [4] ?_
 refine Z0f ?_
 refine Z0l results31 rfl ?_
 refine ⟨_, rfl, ?_⟩
 have H21 := St.del (.tail .head) (St.del (.tail (.tail .head)) (St.del (.tail (.tail (.tail .head))) H18))
 refine ⟨_, rfl, ?_⟩
 unfold vlT
 rw [← hz, ← List.append_assoc]
 exact H21.grows
section
variable {P : Program} {N : Nat} {ops : Array Oper} {ρ : Env} {w w0 : World} {rest : List Oper} {d : Nat} {ty : TypeId} {pos : String} {af : Array Edge} {g : Option (Nat × Bool)} {B : Nat} {M : Nat → Prop} {σ : List As}
end
theorem Z5v {d : Kd} {b X Y : Int} (hb : 0 ≤ b ∧ b < d.I) : (if 0 ≤ splE d b - 1 then cmpI ((2 * splM d b + 1) * Y * 2 ^ (splE d b - 1).toNat) X else cmpI ((2 * splM d b + 1) * Y) (X * 2 ^ (0 - (splE d b - 1)).toNat)) = cmpI ((fv d.H b + fv d.H (b + 1)) * Y) (2 * (X * 2 ^ d.l)) := by
 obtain ⟨h1, h2, h3, h4, h5, h6⟩ := Z5s d hb
 rw [Z55 (l := d.l + 1) ZO, h5, h6, show (splE d b - 1 + ((d.l + 1 : Nat) : Int)) = splE d b + d.l by omega, ← Int.add_mul, Int.pow_succ]
 congr 1
 ·rw [show 2 * splM d b + 1 = splM d b + (splM d b + 1) by omega]
 rw [← Int.mul_assoc, Int.mul_comm _ 2]
theorem splitF {k b : Int} {d : Kd} (hk : kd k = some d) (hb : 0 ≤ b ∧ b < d.I) (w : World) : Z0g P 39 [.int .i64 k, .int .u64 b] w fun r w' => r = .tuple #[.agg #[.bool false, .int .u64 (splM d b), .int .i64 (splE d b)], .int .i64 0] ∧ Grow w w' [] := by
 have hbd := d.bd
 refine (splitB k b ZO w).mono ?_
 rintro r w' ⟨rfl, hG⟩
 rw [Z5y hk hb]
 exact ⟨rfl, hG⟩
theorem prevF {k b : Int} {d : Kd} (hk : kd k = some d) (hb : 0 < b ∧ b < d.I) (w : World) : Z0g P 40 [.int .i64 k, .int .u64 b] w fun r w' => r = .tuple #[.int .u64 (b - 1), .int .i64 0] ∧ Grow w w' [] := by
 have hbd := d.bd
 have e1 : Z59 d b = b + d.S := by unfold Z59; rw [if_neg ZO]
 have e2 : (b + d.S) % d.S = b := by rw [Int.add_emod_right]; exact Int.emod_eq_of_lt ZO ZO
 have e3 : nx d (b + d.S) = (b + d.S - 1, 0) := by
  unfold nx
  rw [e2, if_neg ZO, if_neg ZO, if_pos ZO]
 have e4 : Z59 d (b + d.S - 1) = b - 1 := by unfold Z59; rw [if_pos ZO]; omega
 have e : prF k b = (b - 1, 0) := by
  unfold prF
  rw [Z53 hk (Z3L hk ZO), e1, e3]
  dsimp only
  rw [if_pos rfl, e4]
 refine (prevB k b ZO w).mono ?_
 rintro r w' ⟨rfl, hG⟩
 rw [e]
 exact ⟨rfl, hG⟩
theorem near_ex {T : L8} {k bb road place e x n xe ee : Int} {d : Kd} {W : L8} (h : FlR T k bb road place e) (hk : kd k = some d) (hf : Form T false W [] x) (hl : T.length ≤ 1024) (hx : -400 < x ∧ x < 400) (hE : ExR T n xe ee) :
  (-400 < xe ∧ xe < 400) ∧ 0 ≤ n ∧ ∃ tt, fltT d n xe tt ∧ bb = (if tt.2.2 = 0 then tt.1 else 0) ∧ e = (if tt.2.2 = 0 then 0 else 90) := by
 obtain ⟨tt, ht, hb, he⟩ := fl_form h hk hf hl
 have hr := hf.read hl
 by_cases h0 : Z0P (W ++ []) = []
 ·obtain ⟨rfl, rfl, _⟩ := hE.unique (ExR.nil hr (.inr h0))
  refine ⟨ZO, ZO, ?_⟩
  have hp : pv (W ++ []) = 0 := by rw [← Z4q, h0]; rfl
  rw [hp] at ht
  obtain rfl := ht.unique (Z5u d _)
  exact ⟨_, Z5u d _, hb, he⟩
 obtain ⟨rfl, rfl, _⟩ := hE.unique (ExR.num hr h0)
 have hdg := Z1i (Z0P (W ++ [])).length (Z0P (W ++ [])) rfl (fun c hc => hr.facts.1 c (Z2k hc))
 refine ⟨by simp only [List.length_nil]; omega, hdg.1, tt, ?_, hb, he⟩
 rw [Z4q]
 exact ht
theorem near_mid {d : Kd} {N D : Int} {t : Int × Bool × Int} (hD : 0 < D) (h : RndR d.H (d.I - 1) N D t) :
  (¬ t.2.2 = 0 → cmpI ((fv d.H (d.I - 1) + fv d.H (d.I - 1 + 1)) * D) (2 * N) ≤ 0) ∧
  (t.2.2 = 0 → ¬ cmpI ((fv d.H t.1 + fv d.H (t.1 + 1)) * D) (2 * N) < 0 ∧ ¬ (cmpI ((fv d.H t.1 + fv d.H (t.1 + 1)) * D) (2 * N) = 0 ∧ t.1 % 2 = 1)) ∧
  (t.2.2 = 0 → 0 < t.1 → cmpI ((fv d.H (t.1 - 1) + fv d.H (t.1 - 1 + 1)) * D) (2 * N) < 0 ∨ (cmpI ((fv d.H (t.1 - 1) + fv d.H (t.1 - 1 + 1)) * D) (2 * N) = 0 ∧ t.1 % 2 = 0)) := by
 have hI := d.I_lt
 have hb := h.bits
 refine ⟨fun h0 => ?_, fun h0 => ?_, fun h0 hp => ?_⟩
 ·rcases h with ⟨h1, _⟩ | ⟨_, _, _, _, _, _, rfl⟩
  ·exact Z5j.2 h1
  exact absurd rfl h0
 ·have hg := RndR.ge_iff ZO hD ZO hI.2.1 h (c := t.1) ZO ZO
  rw [show vlR (d.I - 1) t = t.1 from if_pos h0] at hg
  have hn : ¬ upR d.H N D t.1 := fun hu => by have := hg.2 hu; omega
  unfold upR at hn
  rw [Z5e, Z5k]
  exact ⟨fun h => hn (.inl h), fun h => hn (.inr h)⟩
 have hg := RndR.ge_iff ZO hD ZO hI.2.1 h (c := t.1 - 1) ZO ZO
 rw [show vlR (d.I - 1) t = t.1 from if_pos h0] at hg
 have hu := hg.1 ZO
 unfold upR at hu
 rw [Z5e, Z5k]
 rcases hu with h | ⟨h, h2⟩
 ·exact .inl h
 exact .inr ⟨h, ZO⟩
theorem halfL9 (neg : Bool) (man e : Int) (hm : 0 ≤ man ∧ man ≤ 18446744073709551615) (he : -2000 ≤ e ∧ e ≤ 2000) (vx vy : Value) (lx ly : List Int) (X Y : Int) (hRx : R16 lx X) (hRy : R16 ly Y) (hLx : lx.length ≤ 4096) (hLy : ly.length ≤ 4096) (w : World) (hx : IV w vx (ints .i64 lx)) (hy : IV w vy (ints .i64 ly)) :
  Z0g P 38 [.agg #[.bool neg, .int .u64 man, .int .i64 e], vx, vy] w fun r w' => ∃ z, r = .int .i64 z ∧ z = (if 0 ≤ e - 1 then cmpI (man * Y * 2 ^ (e - 1).toNat) X else cmpI (man * Y) (X * 2 ^ (0 - (e - 1)).toNat)) ∧ Grow w w' [] := by
 refine Z0o func38 rfl ntmps38 rfl ?_
 have H0 := St.start w
 refine Z03 (Z00 ?_)
 refine Z2f H0 rfl rfl rfl (fun b0_0 w1 H1 => ?_)
 refine Zg (Z02 (Z01 (Z03 (Z00 (Z0b Z54 rfl rfl rfl ?_)))))
 refine Z07 H1 mem0 rfl rfl underlying30 rfl rfl rfl ?_
 refine Z17 H1 rfl rfl underlying47 ti30 rfl (.cons rfl ZR .nil) rfl rfl rfl (fun b1_2 w2 H2 => ?_)
 refine Z0N rfl rfl func76 rfl rfl (.cons rfl .nil) (numR _ [man] (U.one hm) (by simp) w2 (H2.ibl mem0)) ?_
 rintro vm w3 ⟨_, lm, rfl, hRm, hG⟩
 have H3 := hG _ _ _ _ H2
 simp only [Zca, Zna] at H3
 have hRm2 : R16 lm (man) := by have := hRm; rw [show Ma.vb 18446744073709551616 [man] = man from Z3R _] at this; exact this
 have hlm := R16.len_num (U.one hm) hRm
 simp only [List.length_cons, List.length_nil] at hlm
 refine Zm ?_
 refine Zc func34 (Z5i vm vy lm ly man Y hRm2 hRy ZO ZO w3 (H3.io mem0) (H3.iarg hy)) ?_
 rintro vp w4 ⟨_, lp, rfl, hRp, hG⟩
 have H4 := hG _ _ _ _ H3
 simp only [Zca, Zna] at H4
 have hlp := R16.len_mul hRm2 hRy hRp
 refine Zg (Z02 (Z01 ?_))
 refine Zk [1, 3, 7] ?_
 refine Z03 (Z03 (Z00 (Z0b Z58 rfl rfl rfl ?_)))
 refine Z07 H4 mem3 rfl rfl underlying3 rfl rfl rfl ?_
 refine Zh ?_
 refine Z02 (Z01 ?_)
 (first | refine Z08 rfl ?_ ?_ | refine Z05 rfl ?_ ?_) <;> intro hc0
 ·refine Z03 (Z00 (Zm (Z0b Z58 rfl rfl rfl ?_)))
  refine Z07 H4 mem3 rfl rfl underlying3 rfl rfl rfl ?_
  refine Z0F rfl rfl rfl rfl (Z0h ZO) ?_
  refine Z0q (s := 20) (v' := .int .i64 (((e - 1).toNat : Nat) : Int)) rfl (congrArg (Value.int .i64) ZO) ?_
  refine Z0N rfl rfl func86 rfl rfl (.cons rfl (.cons rfl .nil)) (leftR vp lp _ hRp ZO (e - 1).toNat ZO w4 (H4.io mem0)) ?_
  rintro vl w5 ⟨_, ll, rfl, hRl, hG⟩
  have H5 := hG _ _ _ _ H4
  simp only [Zca, Zna] at H5
  have hll := R16.len_left hRp hRl
  refine Zm ?_
  refine Z0N rfl rfl func85 rfl rfl (.cons rfl (.cons rfl .nil)) (cmpR vl vx ll lx _ _ hRl hRx ZO ZO w5 (H5.io mem0) (H5.iarg hx)) ?_
  rintro _ w6 ⟨rfl, hG⟩
  have H6 := hG _ _ _ _ H5
  simp only [Zca, Zna] at H6
  refine Zg (Z02 (Z01 ?_))
  refine Zk [6] ?_
  refine Z0f ?_
  refine Z06 ?_
  refine Z0l results38 rfl ?_
  refine ⟨_, rfl, ?_⟩
  have H11 := St.del .head (St.del (.tail .head) (St.del (.tail (.tail .head)) (St.del (.tail (.tail (.tail .head))) (St.del (.tail (.tail (.tail (.tail .head)))) H6))))
  exact ⟨_, rfl, by rw [if_pos ZO], H11.grows⟩
 refine Z09 (Z01 (Z03 (Z00 (Zm ?_))))
 refine Zm (Z0b Z58 rfl rfl rfl ?_)
 refine Z07 H4 mem3 rfl rfl underlying3 rfl rfl rfl ?_
 refine Z0F rfl rfl rfl rfl (Z0h ZO) ?_
 refine Z0q (s := 28) (v' := .int .i64 (((0 - (e - 1)).toNat : Nat) : Int)) rfl (congrArg (Value.int .i64) ZO) ?_
 refine Zc func86 (leftR vx lx X hRx ZO (0 - (e - 1)).toNat ZO w4 (H4.iarg hx)) ?_
 rintro vl w12 ⟨_, ll, rfl, hRl, hG⟩
 have H12 := hG _ _ _ _ H4
 simp only [Zca, Zna] at H12
 have hll := R16.len_left hRx hRl
 refine Z0N rfl rfl func85 rfl rfl (.cons rfl (.cons rfl .nil)) (cmpR vp vl lp ll _ _ hRp hRl ZO ZO w12 (H12.io mem1) (H12.io mem0)) ?_
 rintro _ w13 ⟨rfl, hG⟩
 have H13 := hG _ _ _ _ H12
 simp only [Zca, Zna] at H13
 refine Zg (Z02 (Z01 ?_))
 refine Zk [6] ?_
 refine Z0f ?_
 refine Z0l results38 rfl ?_
 refine ⟨_, rfl, ?_⟩
 have H18 := St.del .head (St.del (.tail .head) (St.del (.tail (.tail .head)) (St.del (.tail (.tail (.tail .head))) (St.del (.tail (.tail (.tail (.tail .head)))) H13))))
 exact ⟨_, rfl, by rw [if_neg ZO], H18.grows⟩
theorem parseNearestL (n : Int) (hn : -9223372036854775808 ≤ n ∧ n ≤ 9223372036854775807) (v : Value) (l : L8) (x : Int) (w : World) (hv : IB w v l) :
  Z0g P 10 [.int .i64 n, v, .int .i64 x] w fun r w' => r = .bool true ∧ Grow w w' [] := by
 refine Z0o func10 rfl ntmps10 rfl ?_
 have H0 := St.start w
 obtain ⟨d, hk⟩ := kd_fit n
 have hbd := d.bd
 have hI := d.I_lt
 have hxb := tmod4 x
 have hlT := vlT_len l hxb
 refine Z03 (Z00 (Zg (Z02 (Z01 (Z03 (Z00 ?_))))))
 refine Zm ?_
 refine Z1d rfl rfl rfl rfl rfl (and_i1 hn) ?_
 refine Z0t rfl rfl rfl rfl (Z0h ZO) ?_
 refine Zg (Z02 (Z01 ?_))
 refine Zk [1, 2, 7] ?_
 refine Z03 (Z00 (Zm ?_))
 refine Z2x rfl rfl rfl rfl ZO (rfl) ?_
 refine Zg (Z02 (Z01 (Z03 (Z00 ?_))))
 refine Zc func11 (newC w) ?_
 rintro _ w1 ⟨b, rfl, hG⟩
 have H1 := hG _ _ _ _ H0
 simp only [Zca, Zna] at H1
 refine Zg (Z02 (Z01 ?_))
 refine Zk [1, 2, 7, 8] ?_
 refine Z03 (Z03 (Z00 (Zm ?_)))
 refine l_eqlp ZK rfl rfl rfl rfl ?_
 refine Z0q (s := 37) (v' := .bool false) rfl (by rfl) ?_
 refine Zm ?_
 refine Zc func12 (wakesL9 w1) ?_
 rintro _ w2 ⟨rfl, hG⟩
 have H2 := hG _ _ _ _ H1
 simp only [Zca, Zna] at H2
 first | refine Z1c rfl rfl rfl ?_ | refine Z1N rfl rfl rfl ?_
 refine Z0q (s := 40) (v' := .bool false) rfl (by rfl) ?_
 refine Z1a rfl rfl rfl rfl ?_
 refine Z02 (Z01 ?_)
 refine Z1D rfl rfl ?_
 refine Z09 (Z01 ?_)
 refine Zk [1, 2, 7, 8] ?_
 refine Z03 (Z00 (Zm ?_))
 refine Zm ?_
 refine Zc func31 (valueL9 v l (x.tmod 400) hxb w2 (H2.iarg hv)) ?_
 rintro _ w3 ⟨vt, rfl, hG⟩
 have H3 := hG _ _ _ _ H2
 simp only [Zca, Zna] at H3
 obtain ⟨A1, c1, rfl, hv1⟩ := IB.sl (t := vlT l (x.tmod 400)) (H3.io mem0)
 refine Zg (Z02 (Z01 (Z03 (Z00 ?_))))
 refine Zm ?_
 refine Zm ?_
 refine Zm ?_
 have H4 := St.frontL (l := [_, _]) H3
 simp only [Zca, Zna] at H4
 have H5 := St.frontL (l := [_, _]) H4
 simp only [Zca, Zna] at H5
 refine Zc func16 (Z2v b (List.replicate 41 none) (List.length_replicate ..) (9 + n % 2) A1 c1 (vlT l (x.tmod 400)) ZO w3 (St.rows (τ := cacW b (List.replicate 41 none)) H5) (Z2B (τ := cacW b (List.replicate 41 none)) H5 (A := As.rb 5 (.slice A1 (vlT l (x.tmod 400)).length c1) (vlT l (x.tmod 400))) (.head _) (R := fun w1 => IB w1 (.slice A1 (vlT l (x.tmod 400)).length c1) (vlT l (x.tmod 400))) (fun w1 h => Own.iv h))) ?_
 rintro _ w6 ⟨bb1, ro1, pl1, e1, L1, o1, rfl, hF1, hNe1, hCa1, hL1, hX⟩
 have H6 := hX _ _ _ _ H5
 simp only [cacW, List.cons_append, List.nil_append] at H6
 refine Zm ?_
 refine Zx (Zx (Zx (Zx (Zg ?_))))
 refine Zg ?_
 refine Zg ?_
 refine Zg (Z02 (Z01 ?_))
 refine Zk [7, 9, 10, 13] ?_
 refine Z03 (Z00 (Zm ?_))
 refine Z0N rfl rfl func33 rfl rfl (.cons rfl .nil) (exact8 _ (vlT l (x.tmod 400)) ZO w6 (H6.io mem2)) ?_
 rintro _ w7 ⟨vn, ln, n0, xe, ee, rfl, hRn, hnb, hE, hG⟩
 have H7 := hG _ _ _ _ H6
 simp only [Zca, Zna] at H7
 obtain ⟨hxe, hn0, tt, htt, ebb, eee⟩ := near_ex hF1 hk (vlT_form l hxb) ZO hxb hE
 have hln := hRn.len_lt hnb
 have hb := RndR.bits htt
 obtain ⟨m1, m2, m3⟩ := near_mid (Ma.pow_pos ZO _) htt
 refine Zm ?_
 refine Zx (Zx (Zx (Zg ?_)))
 refine Zg ?_
 refine Zg (Z02 (Z01 (Z03 (Z00 ?_))))
 refine Zm ?_
 refine Z17 H7 rfl rfl underlying64 ti3 rfl (.cons rfl ZR .nil) rfl rfl rfl (fun b9_1 w8 H8 => ?_)
 refine Zg ?_
 refine Zg (Z02 (Z01 ?_))
 refine Zk [7, 10, 13, 15, 17, 18] ?_
 refine Z0R (ι := Value × List Int × Value × List Int) (fun (z0 : Value × List Int × Value × List Int) (w' : World) => match z0 with | ⟨vx, lx, vy, ly⟩ => St w w.heap.size Z0B ([As.ri 3 .i64 vx lx, As.ri 3 .i64 vy ly]) w' ∧ R16 lx (n0 * 10 ^ xe.toNat) ∧ R16 ly (10 ^ (-xe).toNat) ∧ lx.length ≤ 4096 ∧ ly.length ≤ 4096) (fun (z0 : Value × List Int × Value × List Int) => match z0 with | ⟨vx, lx, vy, ly⟩ => [(17, vx), (18, vy)]) [7, 10, 13] (.cons rfl (.cons rfl (.cons rfl .nil))) ?_ ?_
 ·refine Z03 (Z00 ?_)
  have H9 := H8.blk_own (by decide)
  refine Zm ?_
  refine Zh ?_
  refine Z02 (Z01 ?_)
  (first | refine Z08 rfl ?_ ?_ | refine Z05 rfl ?_ ?_) <;> intro hc1
  ·refine Z00 (Zm ?_)
   refine Zm ?_
   refine Zc func35 (tenR (xe) ZO w8) ?_
   rintro vu w10 ⟨_, lu, rfl, hRu, hG⟩
   have H10 := hG _ _ _ _ H9
   simp only [Zca, Zna] at H10
   have hlu := hRu.len (k := 8192) (Z2q ZO)
   refine Z0N rfl rfl func34 rfl rfl (.cons rfl (.cons rfl .nil)) (Z5i vn vu ln lu n0 _ hRn hRu ZO ZO w10 (H10.io mem2) (H10.io mem0)) ?_
   rintro vp w11 ⟨_, lp, rfl, hRp, hG⟩
   have H11 := hG _ _ _ _ H10
   simp only [Zca, Zna] at H11
   have hlp := hRn.len_mul hRu hRp
   refine Zg (Z02 ?_)
   have H12 := St.frontL (l := [_, _]) H11
   simp only [Zca, Zna] at H12
   have H13 := St.frontL (l := [_]) H12
   simp only [Zca, Zna] at H13
   have H18 := St.del (.tail (.tail .head)) (St.del (.tail (.tail (.tail .head))) (St.del (.tail (.tail (.tail (.tail .head)))) (St.del (.tail (.tail (.tail (.tail (.tail .head))))) (St.del (.tail (.tail (.tail (.tail (.tail (.tail .head)))))) H13))))
   refine Z0s (vp, lp, .slice (some ⟨b9_1, 0, none⟩) 1 1, [1]) ?_ (.cons rfl (.cons rfl (.cons rfl .nil))) ?_
   ·exact ⟨H18, hRp, by rw [show (-xe).toNat = 0 by omega, Int.pow_zero]; exact R16.one1, ZO, by simp⟩
   exact (.cons rfl ZN (.cons rfl ZN .nil))
  refine Z00 (Zm ?_)
  refine Z2u rfl rfl rfl (Z0h ZO) ?_
  refine Z0q (s := 69) (v' := .int .i64 (-xe)) rfl (congrArg (Value.int .i64) ZO) ?_
  refine Zc func35 (tenR (-xe) ZO w8) ?_
  rintro vu w19 ⟨_, lu, rfl, hRu, hG⟩
  have H19 := hG _ _ _ _ H9
  simp only [Zca, Zna] at H19
  have hlu := hRu.len (k := 8192) (Z2q ZO)
  refine Zg (Z02 ?_)
  have H20 := St.frontL (l := [_, _]) H19
  simp only [Zca, Zna] at H20
  have H24 := St.del (.tail (.tail .head)) (St.del (.tail (.tail (.tail .head))) (St.del (.tail (.tail (.tail (.tail .head)))) (St.del (.tail (.tail (.tail (.tail (.tail .head))))) H20)))
  refine Z0s (vn, ln, vu, lu) ?_ (.cons rfl (.cons rfl (.cons rfl .nil))) ?_
  ·exact ⟨H24, by rw [show xe.toNat = 0 by omega, Int.pow_zero, Int.mul_one]; exact hRn, hRu, ZO, ZO⟩
  exact (.cons rfl ZN (.cons rfl ZN .nil))
 rintro ⟨vx, lx, vy, ly⟩ w25 ⟨H25, hRx, hRy, hlx, hly⟩
 show RunC P _ _ _ (_ :: _) _
 refine Z03 (Z03 (Z00 (Zm ?_)))
 refine Z0J rfl rfl func18 rfl rfl (.cons rfl .nil) (Z32 _ _) ?_
 refine Ze ?_
 refine Z02 (Z01 ?_)
 refine Zk [7, 10, 13, 17, 18, 73] ?_
 (first | refine Z08 rfl ?_ ?_ | refine Z05 rfl ?_ ?_) <;> intro hc2
 ·refine Z03 (Z00 (Zm ?_))
  refine Zm ?_
  refine Zp func37 (Z5d (9 + n % 2) d hk w25) ?_
  refine Zc func36 (split3f hk (b := d.I - 1) ZO w25) ?_
  rintro _ w26 ⟨rfl, hG⟩
  have H26 := hG _ _ _ _ H25
  simp only [Zca, Zna] at H26
  obtain ⟨q1, q2, q3, q4, _, _⟩ := Z5s d (b := d.I - 1) ZO
  have q5 : -2000 ≤ splE d (d.I - 1) := by omega
  refine Zm ?_
  refine Zx (Zx ?_)
  refine Z0H H26 ta70 rfl rfl (fun b14_7 w27 H27 => ?_)
  refine Z0a H27 .head (.zero (.zero (.zero .nil))) rfl tz70 rfl rfl ZC (fun w28 H28 => ?_)
  refine Zg (Z02 (Z01 (Z03 (Z00 (Z0b Z54 rfl rfl rfl ?_)))))
  refine Z07 H28 mem0 rfl rfl underlying30 rfl rfl rfl ?_
  refine Z1m rfl rfl rfl rfl (Z0M ZO) ?_
  refine Z0t rfl rfl rfl rfl (Z0M ZO) ?_
  refine Z0b Z54 rfl rfl rfl ?_
  refine Z0w H28 .head (by repeat (first | exact .zero | apply Z1g.succ)) rfl tz30 rfl rfl ZR (fun w29 H29 => ?_)
  refine Z02 (Z01 ?_)
  refine Zk [17, 18, 19] ?_
  refine Z03 (Z00 ?_)
  refine Z0e H29 mem0 rfl rfl underlying70 rfl tz70 rfl (.take (.take (.take .nil))) ?_
  refine Zm ?_
  refine Zm ?_
  refine Zc func38 (halfL9 false (2 * splM d (d.I - 1) + 1) (splE d (d.I - 1)) ZO ZO vx vy lx ly (n0 * 10 ^ xe.toNat) (10 ^ (-xe).toNat) hRx hRy ZO ZO w29 (H29.io mem1) (H29.io mem2)) ?_
  rintro _ w30 ⟨z0, rfl, hz0, hG⟩
  have H30 := hG _ _ _ _ H29
  simp only [Zca, Zna] at H30
  rw [Z5v (d := d) (b := d.I - 1) ZO] at hz0
  refine Zf ?_
  refine Zg (Z02 (Z01 ?_))
  refine Z0f ?_
  refine Z06 ?_
  refine Z0l results10 rfl ?_
  refine ⟨_, rfl, ?_⟩
  have H33 := St.del .head (St.del (.tail .head) (St.del (.tail (.tail .head)) H30))
  have h0 : ¬ tt.2.2 = 0 := fun h => by rw [if_pos h] at eee; omega
  exact ⟨congrArg Value.bool (decide_eq_true (by rw [hz0]; exact m1 h0)), H33.grows⟩
 refine Z09 (Z01 ?_)
 refine Zk [7, 10, 13, 17, 18] ?_
 refine Z03 (Z00 ?_)
 have h0 : tt.2.2 = 0 := Classical.not_not.1 fun h => by rw [if_neg h] at eee; omega
 rw [if_pos h0] at ebb eee
 obtain ⟨m4, m5⟩ := m2 h0
 have hbr : 0 ≤ bb1 ∧ bb1 < d.I := by omega
 refine Zm ?_
 refine Zm ?_
 refine Zc func39 (splitF hk (b := bb1) ZO w25) ?_
 rintro _ w34 ⟨rfl, hG⟩
 have H34 := hG _ _ _ _ H25
 simp only [Zca, Zna] at H34
 obtain ⟨q1, q2, q3, q4, _, _⟩ := Z5s d (b := bb1) ZO
 have q5 : -2000 ≤ splE d (bb1) := by omega
 refine Zm ?_
 refine Zx (Zx ?_)
 refine Z0H H34 ta70 rfl rfl (fun b17_6 w35 H35 => ?_)
 refine Z0a H35 .head (.zero (.zero (.zero .nil))) rfl tz70 rfl rfl ZC (fun w36 H36 => ?_)
 refine Zg (Z02 (Z01 (Z03 (Z03 (Z00 ?_)))))
 refine Zm ?_
 refine Z0J rfl rfl func18 rfl rfl (.cons rfl .nil) (Z32 _ _) ?_
 refine Zo ?_
 refine Z0q (s := 99) (v' := .bool false) rfl (by rw [eee]; simp) ?_
 refine Zm ?_
 refine Zm ?_
 refine Z0J rfl rfl func18 rfl rfl (.cons rfl .nil) (Z32 _ _) ?_
 refine Zo ?_
 refine Z0q (s := 103) (v' := .bool false) rfl (by simp) ?_
 refine Z1a rfl rfl rfl rfl ?_
 refine Zm (Z0b fo70_0 rfl rfl rfl ?_)
 refine Z07 H36 mem0 rfl rfl underlying4 rfl rfl rfl ?_
 refine Z0q (s := 107) (v' := .bool false) rfl (by rfl) ?_
 refine Z1a rfl rfl rfl rfl ?_
 refine Z02 (Z01 ?_)
 refine Zk [7, 10, 17, 18, 21, 108] ?_
 refine Z1D rfl rfl ?_
 refine Z09 (Z01 (Z03 (Z00 ?_)))
 refine Z0e H36 mem0 rfl rfl underlying70 rfl tz70 rfl (.take (.take (.take .nil))) ?_
 refine Z0H H36 ta70 rfl rfl (fun b20_1 w37 H37 => ?_)
 refine Z0a H37 .head (.zero (.zero (.zero .nil))) rfl tz70 rfl rfl ZC (fun w38 H38 => ?_)
 refine Z02 (Z01 ?_)
 refine Zk [7, 10, 17, 18, 23] ?_
 refine Z03 (Z00 (Z0b Z54 rfl rfl rfl ?_))
 refine Z07 H38 mem0 rfl rfl underlying30 rfl rfl rfl ?_
 refine Z1m rfl rfl rfl rfl (Z0M ZO) ?_
 refine Z0t rfl rfl rfl rfl (Z0M ZO) ?_
 refine Z0b Z54 rfl rfl rfl ?_
 refine Z0w H38 .head (by repeat (first | exact .zero | apply Z1g.succ)) rfl tz30 rfl rfl ZR (fun w39 H39 => ?_)
 refine Z02 (Z01 (Z03 (Z00 ?_)))
 refine Z0e H39 mem0 rfl rfl underlying70 rfl tz70 rfl (.take (.take (.take .nil))) ?_
 refine Zm ?_
 refine Zm ?_
 refine Zc func38 (halfL9 false (2 * splM d (bb1) + 1) (splE d (bb1)) ZO ZO vx vy lx ly (n0 * 10 ^ xe.toNat) (10 ^ (-xe).toNat) hRx hRy ZO ZO w39 (H39.io mem2) (H39.io mem3)) ?_
 rintro _ w40 ⟨z1, rfl, hz1, hG⟩
 have H40 := hG _ _ _ _ H39
 simp only [Zca, Zna] at H40
 rw [Z5v (d := d) (b := bb1) hbr] at hz1
 rw [← ebb] at m4 m5
 rw [← hz1] at m4 m5
 refine Zg (Z02 (Z01 ?_))
 refine Zk [7, 10, 17, 18, 24] ?_
 refine Z03 (Z03 (Z00 (Zm ?_)))
 refine Zl ?_
 refine Z0q (s := 120) (v' := .bool false) rfl (by simp; omega) ?_
 refine Zm ?_
 refine Zm ?_
 refine Ze ?_
 refine Zm ?_
 apply Z13 3 [7, 10, 17, 18, 121] rfl rfl (.cons rfl (.cons rfl (.cons rfl (.cons rfl (.cons rfl (.cons rfl .nil)))))) rfl rfl (fun _ => rfl) rfl rfl rfl
 ·intro hg23_6
  refine Zm ?_
  refine Z2x rfl rfl rfl rfl ZO (Z2P ZO) ?_
  refine Ze ?_
  refine Z02 ?_
  exact Z0n rfl (.cons rfl (ZT hg23_6) (.cons rfl rfl (.cons rfl rfl (.cons rfl rfl (.cons rfl rfl (.cons rfl rfl .nil))))))
  all_goals infer_instance
 refine Z0q (s := 128) (v' := .bool false) rfl (by rw [decide_eq_false m5]) ?_
 refine Z1a rfl rfl rfl rfl ?_
 refine Z02 (Z01 ?_)
 refine Z1D rfl rfl ?_
 refine Z09 (Z01 ?_)
 refine Zk [7, 10, 17, 18] ?_
 refine Z03 (Z03 (Z00 (Zm ?_)))
 refine Ze ?_
 refine Z02 (Z01 ?_)
 (first | refine Z08 rfl ?_ ?_ | refine Z05 rfl ?_ ?_) <;> intro hc5
 ·refine Z03 (Z00 (Zg (Z02 (Z01 ?_))))
  refine Zk [6] ?_
  refine Z0f ?_
  refine Z06 ?_
  refine Z0l results10 rfl ?_
  refine ⟨_, rfl, ?_⟩
  have H44 := St.del .head (St.del (.tail .head) (St.del (.tail (.tail .head)) (St.del (.tail (.tail (.tail .head))) H40)))
  exact ⟨rfl, H44.grows⟩
 refine Z09 (Z01 (Z03 (Z00 ?_)))
 have hbp : 0 < bb1 := by omega
 have m6 := m3 h0 ZO
 rw [← ebb] at m6
 refine Zm ?_
 refine Zm ?_
 refine Zc func40 (prevF hk (b := bb1) ZO w40) ?_
 rintro _ w45 ⟨rfl, hG⟩
 have H45 := hG _ _ _ _ H40
 simp only [Zca, Zna] at H45
 refine Zm ?_
 refine Zx (Zx (Zg ?_))
 refine Zg (Z02 (Z01 ?_))
 refine Zk [7, 10, 17, 18, 25, 26] ?_
 refine Z03 (Z00 (Zm ?_))
 refine Zm ?_
 refine Zc func39 (splitF hk (b := bb1 - 1) ZO w45) ?_
 rintro _ w46 ⟨rfl, hG⟩
 have H46 := hG _ _ _ _ H45
 simp only [Zca, Zna] at H46
 obtain ⟨q1, q2, q3, q4, _, _⟩ := Z5s d (b := bb1 - 1) ZO
 have q5 : -2000 ≤ splE d (bb1 - 1) := by omega
 refine Zm ?_
 refine Zx (Zx ?_)
 refine Z0H H46 ta70 rfl rfl (fun b28_6 w47 H47 => ?_)
 refine Z0a H47 .head (.zero (.zero (.zero .nil))) rfl tz70 rfl rfl ZC (fun w48 H48 => ?_)
 refine Zg (Z02 (Z01 (Z03 (Z03 (Z00 ?_)))))
 refine Zm ?_
 refine Z0J rfl rfl func18 rfl rfl (.cons rfl .nil) (Z32 _ _) ?_
 refine Zo ?_
 refine Z0q (s := 146) (v' := .bool false) rfl (by simp) ?_
 refine Zm ?_
 refine Zm ?_
 refine Z0J rfl rfl func18 rfl rfl (.cons rfl .nil) (Z32 _ _) ?_
 refine Zo ?_
 refine Z0q (s := 150) (v' := .bool false) rfl (by simp) ?_
 refine Z1a rfl rfl rfl rfl ?_
 refine Z02 (Z01 ?_)
 refine Zk [10, 17, 18, 27, 151] ?_
 refine Z1D rfl rfl ?_
 refine Z09 (Z01 (Z03 (Z00 (Z0b Z54 rfl rfl rfl ?_))))
 refine Z07 H48 mem0 rfl rfl underlying30 rfl rfl rfl ?_
 refine Z1m rfl rfl rfl rfl (Z0M ZO) ?_
 refine Z0t rfl rfl rfl rfl (Z0M ZO) ?_
 refine Z0b Z54 rfl rfl rfl ?_
 refine Z0w H48 .head (by repeat (first | exact .zero | apply Z1g.succ)) rfl tz30 rfl rfl ZR (fun w49 H49 => ?_)
 refine Z02 (Z01 ?_)
 refine Zk [10, 17, 18, 27] ?_
 refine Z03 (Z00 ?_)
 refine Z0e H49 mem0 rfl rfl underlying70 rfl tz70 rfl (.take (.take (.take .nil))) ?_
 refine Zm ?_
 refine Zm ?_
 refine Zc func38 (halfL9 false (2 * splM d (bb1 - 1) + 1) (splE d (bb1 - 1)) ZO ZO vx vy lx ly (n0 * 10 ^ xe.toNat) (10 ^ (-xe).toNat) hRx hRy ZO ZO w49 (H49.io mem3) (H49.io mem4)) ?_
 rintro _ w50 ⟨z2, rfl, hz2, hG⟩
 have H50 := hG _ _ _ _ H49
 simp only [Zca, Zna] at H50
 rw [Z5v (d := d) (b := bb1 - 1) ZO] at hz2
 rw [← hz2] at m6
 refine Zg (Z02 (Z01 (Z03 (Z00 ?_))))
 refine Zm ?_
 refine Zl ?_
 refine Zm ?_
 apply l_or (q := z2 = 0 ∧ bb1 % 2 = 0) 7 [] rfl rfl (.cons rfl .nil) rfl rfl (fun _ => rfl) rfl rfl rfl
 ·intro hg33_3
  refine Zm ?_
  refine Ze ?_
  refine Zm ?_
  apply Z13 3 [163] rfl rfl (.cons rfl (.cons rfl .nil)) rfl rfl (fun _ => rfl) rfl rfl rfl
  ·intro hg33_6
   refine Zm ?_
   refine Z2x rfl rfl rfl rfl ZO (Z2P ZO) ?_
   refine Ze ?_
   refine Z02 ?_
   exact Z0n rfl (.cons rfl (ZT hg33_6) (.cons rfl rfl .nil))
   all_goals infer_instance
  refine Z02 ?_
  exact Z0n rfl (.cons rfl (ZF hg33_3) .nil)
  all_goals infer_instance
 refine Zg (Z02 (Z01 ?_))
 refine Zk [6] ?_
 refine Z0f ?_
 refine Z0l results10 rfl ?_
 refine ⟨_, rfl, ?_⟩
 have H55 := St.del .head (St.del (.tail .head) (St.del (.tail (.tail .head)) (St.del (.tail (.tail (.tail .head))) (St.del (.tail (.tail (.tail (.tail .head)))) H50))))
 exact ⟨congrArg Value.bool (decide_eq_true m6), H55.grows⟩
end Go.Proofs.YtjcbdogohjafdaaGreat.W
