/- law mintagelaw09: closed texts, kind, wakes -/
import Derived.Test.YtjcbdogohjafdaaGreatQg
set_option linter.unusedVariables false
set_option linter.unusedSimpArgs false
set_option maxRecDepth 10000
namespace Go.Proofs.YtjcbdogohjafdaaGreat.W
open Go.Vc Go.RowKit Tryz
theorem IB.sl {w : World} {v : Value} {t : L8} (h : IB w v t) : ∃ A c, v = .slice A t.length c ∧ IB w (.slice A t.length c) t := by
 obtain ⟨A, c, e, h2, h3⟩ := h
 rw [show (bys t).length = t.length from by simp [bys]] at e
 exact ⟨A, c, e, A, c, by rw [show (bys t).length = t.length from by simp [bys]], h2, h3⟩
def rnF (d : Kd) (N D b0 : Int) : Int × Bool × Int := if (if upR d.H N D b0 then b0 + 1 else b0) ≤ d.I - 1 then (if upR d.H N D b0 then b0 + 1 else b0, decide (fv d.H b0 * D = N), 0) else (0, false, 34)
theorem rn_of {d : Kd} {N D b0 : Int} (hD : 0 < D) (h0 : 0 ≤ b0) (h1 : fv d.H b0 * D ≤ N) (h2 : N < fv d.H (b0 + 1) * D) : RndR d.H (d.I - 1) N D (rnF d N D b0) := by
 have hI := d.I_lt
 exact RndR.of (by omega) hD (by omega) hI.2.1 h0 h1 h2
def tbN (d : Kd) (A x : Int) : Int := A * 2 ^ (tbE x).toNat * 2 ^ d.l
def tbD (x : Int) : Int := 2 ^ (-(tbE x)).toNat
theorem tb_of {d : Kd} {A x b0 : Int} (h : 0 ≤ b0 ∧ fv d.H b0 * tbD x ≤ tbN d A x ∧ tbN d A x < fv d.H (b0 + 1) * tbD x) : tabT d A x (rnF d (tbN d A x) (tbD x) b0) := rn_of (Ma.pow_pos (by omega) _) h.1 h.2.1 h.2.2
theorem ag_cl {d : Kd} {man x : Int} {more : Bool} {b1 b2 : Int} (h1 : 0 ≤ b1 ∧ fv d.H b1 * tbD x ≤ tbN d (tbLo x * man) x ∧ tbN d (tbLo x * man) x < fv d.H (b1 + 1) * tbD x) (h2 : 0 ≤ b2 ∧ fv d.H b2 * tbD x ≤ tbN d (tbHi x * mrF man more) x ∧ tbN d (tbHi x * mrF man more) x < fv d.H (b2 + 1) * tbD x)
  (hr : (rnF d (tbN d (tbLo x * man) x) (tbD x) b1).2.2 = (rnF d (tbN d (tbHi x * mrF man more) x) (tbD x) b2).2.2 ∧ (rnF d (tbN d (tbLo x * man) x) (tbD x) b1).1 = (rnF d (tbN d (tbHi x * mrF man more) x) (tbD x) b2).1) : agP d man x more := ⟨_, _, tb_of h1, tb_of h2, hr⟩
theorem nag_cl {d : Kd} {man x : Int} {more : Bool} {b1 b2 : Int} (h1 : 0 ≤ b1 ∧ fv d.H b1 * tbD x ≤ tbN d (tbLo x * man) x ∧ tbN d (tbLo x * man) x < fv d.H (b1 + 1) * tbD x) (h2 : 0 ≤ b2 ∧ fv d.H b2 * tbD x ≤ tbN d (tbHi x * mrF man more) x ∧ tbN d (tbHi x * mrF man more) x < fv d.H (b2 + 1) * tbD x)
  (hr : ¬ ((rnF d (tbN d (tbLo x * man) x) (tbD x) b1).2.2 = (rnF d (tbN d (tbHi x * mrF man more) x) (tbD x) b2).2.2 ∧ (rnF d (tbN d (tbLo x * man) x) (tbD x) b1).1 = (rnF d (tbN d (tbHi x * mrF man more) x) (tbD x) b2).1)) : ¬ agP d man x more := fun h => hr ((agP.iff (tb_of h1) (tb_of h2)).1 h)
theorem fl_wd {t : L8} {k bb road place e wd man x : Int} {d : Kd} {ng more : Bool} (h : FlR t k bb road place e) (hk : kd k = some d) (hs : scanF t = (ng, wd, man, x, more, 0, 0)) (hw : wdP wd man) : bb = spF d ng wd ∧ road = 1 ∧ place = 0 ∧ e = 0 := by
 cases h with
 | kind h2 => rw [hk] at h2; cases h2
 | err h2 hsc he => obtain ⟨_, _, _, _, _, _, h3⟩ := Z2J hsc hs; exact absurd h3 he
 | word h2 hsc _ =>
  obtain ⟨rfl, rfl, _⟩ := Z2J hsc hs
  rw [hk] at h2; cases h2
  exact ⟨rfl, rfl, rfl, rfl⟩
 | num h2 hsc H2 _ _ =>
  obtain ⟨_, rfl, rfl, _⟩ := Z2J hsc hs
  exact absurd hw H2
theorem fl_cl {t : L8} {k bb road place e man x x1 n xx b0 : Int} {d : Kd} {ng more : Bool} {W F : L8} (h : FlR t k bb road place e) (hk : kd k = some d) (hs : scanF t = (ng, 0, man, x1, more, 0, 0)) (hm : ¬ man = 0) (hr : Z3G t = (ng, 0, W, F, x, 0, 0)) (hne : ¬ Z0P (W ++ F) = [])
  (hn : pv (Z0P (W ++ F)) = n) (hxx : x - F.length = xx) (hb : 0 ≤ b0 ∧ fv d.H b0 * 10 ^ (-xx).toNat ≤ n * 10 ^ xx.toNat * 2 ^ d.l ∧ n * 10 ^ xx.toNat * 2 ^ d.l < fv d.H (b0 + 1) * 10 ^ (-xx).toNat) {res : Int × Bool × Int} (hres : rnF d (n * 10 ^ xx.toNat * 2 ^ d.l) (10 ^ (-xx).toNat) b0 = res) :
  bb = (if res.2.2 = 0 then sgF d ng res.1 else 0) ∧ road = Z4M d k man x1 more ∧ place = 0 ∧ e = (if res.2.2 = 0 then 0 else 90) := by
 cases h with
 | kind h2 => rw [hk] at h2; cases h2
 | err h2 hsc he => obtain ⟨_, _, _, _, _, _, h3⟩ := Z2J hsc hs; exact absurd h3 he
 | word h2 hsc hw =>
  obtain ⟨_, rfl, rfl, _⟩ := Z2J hsc hs
  unfold wdP at hw
  omega
 | num h2 hsc H2 hx ht =>
  obtain ⟨rfl, rfl, rfl, rfl, rfl, rfl, _⟩ := Z2J hsc hs
  rw [hk] at h2; cases h2
  have hro := Z4R t
  rw [hr] at hro
  obtain ⟨rfl, rfl, _⟩ := hx.unique (ExR.num hro hne)
  rw [hn, hxx] at ht
  have h3 : fltT d n xx res := by rw [← hres]; exact rn_of (Ma.pow_pos ZO _) hb.1 hb.2.1 hb.2.2
  rw [ht.unique h3]
  exact ⟨rfl, rfl, rfl, rfl⟩
theorem wk1 {bb road place e : Int} (h : FlR [45, 48] 10 bb road place e) : bb = 9223372036854775808 ∧ road = 1 ∧ place = 0 ∧ e = 0 := fl_wd (d := .f64) (wd := 0) (man := 0) (x := 0) (more := false) (ng := true) h rfl (by decide +kernel) (by decide)
theorem wk2 {bb road place e : Int} (h : FlR [48, 46, 49] 10 bb road place e) : bb = 4591870180066957722 ∧ road = 2 ∧ place = 0 ∧ e = 0 := by
 have h1 := fl_cl (d := .f64) (n := 1) (xx := -1) (b0 := 4591870180066957721) (W := [48]) (F := [49]) (x := 0) (man := 1) (x1 := -1) (more := false) (ng := false) (res := (4591870180066957722, false, 0)) h rfl (by decide +kernel) (by decide) (by decide +kernel) (by decide +kernel) (by decide +kernel) (by decide) (by decide +kernel) (by decide +kernel)
 rw [roadS_2 (by decide)] at h1
 exact h1
theorem wk3 {bb road place e : Int} (h : FlR [49, 101, 50, 51] 10 bb road place e) : bb = 4950912855330343670 ∧ road = 3 ∧ place = 0 ∧ e = 0 := by
 have h1 := fl_cl (d := .f64) (n := 1) (xx := 23) (b0 := 4950912855330343670) (W := [49]) (F := []) (x := 23) (man := 1) (x1 := 23) (more := false) (ng := false) (res := (4950912855330343670, false, 0)) h rfl (by decide +kernel) (by decide) (by decide +kernel) (by decide +kernel) (by decide +kernel) (by decide) (by decide +kernel) (by decide +kernel)
 rw [roadS_3 (by decide) (by decide) (ag_cl (b1 := 4950912855330343670) (b2 := 4950912855330343670) (by decide +kernel) (by decide +kernel) (by decide +kernel))] at h1
 exact h1
theorem wk4 {bb road place e : Int} (h : FlR [57, 48, 48, 55, 49, 57, 57, 50, 53, 52, 55, 52, 48, 57, 57, 50, 46, 57, 57, 57, 57, 57, 57, 57, 57, 57, 57, 57, 57, 57, 57, 57, 57, 57, 57, 57, 57] 10 bb road place e) : bb = 4845873199050653696 ∧ road = 4 ∧ place = 0 ∧ e = 0 := by
 have h1 := fl_cl (d := .f64) (n := 900719925474099299999999999999999999) (xx := -20) (b0 := 4845873199050653696) (W := [57, 48, 48, 55, 49, 57, 57, 50, 53, 52, 55, 52, 48, 57, 57, 50]) (F := [57, 57, 57, 57, 57, 57, 57, 57, 57, 57, 57, 57, 57, 57, 57, 57, 57, 57, 57, 57]) (x := 0) (man := 9007199254740992999) (x1 := -3) (more := true) (ng := false) (res := (4845873199050653696, false, 0)) h rfl (by decide +kernel) (by decide) (by decide +kernel) (by decide +kernel) (by decide +kernel) (by decide) (by decide +kernel) (by decide +kernel)
 rw [roadS_4 (by decide) (fun _ => nag_cl (b1 := 4845873199050653696) (b2 := 4845873199050653696) (by decide +kernel) (by decide +kernel) (by decide +kernel))] at h1
 exact h1
theorem Z32 (x : Int) (w : World) :
  Z0g P 18 [.int .i64 x] w fun r w' => r = .int .i64 x ∧ w = w' := by
 refine Z0o func18 rfl ntmps18 rfl ?_
 refine Z03 (Z00 (Zg (Z02 (Z01 ?_))))
 refine Zk [0] ?_
 refine Z03 (Z00 (Zm ?_))
 refine Zg (Z02 (Z01 ?_))
 refine Zk [2] ?_
 refine Z0f ?_
 refine Z0l results18 rfl ?_
 refine ⟨_, rfl, ?_⟩
 exact ⟨rfl, rfl⟩
theorem Z4m  (w : World) :
  Z0g P 12 [] w fun r w' => r = .bool true ∧ Grow w w' [] := by
 refine Z0o func12 rfl ntmps12 rfl ?_
 have H0 := St.start w
 refine Z03 (Z00 (Zg (Z02 (Z01 ?_))))
 refine Zk [] ?_
 refine Z03 (Z00 ?_)
 refine Zc func11 (newC w) ?_
 rintro _ w1 ⟨b, rfl, hG⟩
 have H1 := hG _ _ _ _ H0
 simp only [Zca, Zna] at H1
 refine Zg (Z02 (Z01 ?_))
 refine Zk [1] ?_
 refine Z03 (Z03 (Z00 (Zm ?_)))
 refine l_eqlp ZK rfl rfl rfl rfl ?_
 refine Z0q (s := 21) (v' := .bool false) rfl (by rfl) ?_
 refine Z02 (Z01 ?_)
 refine Zk [1, 21] ?_
 refine Z1D rfl rfl ?_
 refine Z09 (Z01 ?_)
 refine Zk [1] ?_
 refine Z03 (Z00 (Zm ?_))
 refine Z17 H1 rfl rfl underlying26 ti5 rfl (.cons rfl ZR (.cons rfl ZR .nil)) rfl rfl rfl (fun b4_1 w2 H2 => ?_)
 refine l_mark H2 rfl rfl underlying26 underlying5 rfl rfl (fun v4_2 w3 H3 => ?_)
 obtain ⟨A1, c1, rfl, hv1⟩ := IB.sl (t := [45, 48]) (H3.ii mem0)
 have H4 := St.frontL (l := [_, _]) H3
 simp only [Zca, Zna] at H4
 have H5 := St.frontL (l := [_, _]) H4
 simp only [Zca, Zna] at H5
 refine Z0N rfl rfl func16 rfl rfl (.cons rfl (.cons rfl (.cons rfl .nil))) (Z2v b (List.replicate 41 none) (List.length_replicate ..) (10) A1 c1 [45, 48] (by decide) w3 (St.rows (τ := cacW b (List.replicate 41 none)) H5) (Z2B (τ := cacW b (List.replicate 41 none)) H5 (A := As.iv _ _) (.head _) (R := fun w1 => IB w1 _ [45, 48]) (fun w1 h => h))) ?_
 rintro _ w6 ⟨bb1, ro1, pl1, e1, L1, o1, rfl, hF1, hNe1, hCa1, hL1, hX⟩
 have H6 := hX _ _ _ _ H5
 simp only [cacW, List.cons_append, List.nil_append] at H6
 obtain ⟨rfl, rfl, rfl, rfl⟩ := wk1 hF1
 refine Zm ?_
 refine Zx (Zx (Zx (Zx (Zg ?_))))
 refine Zg ?_
 refine Zg ?_
 refine Zg (Z02 (Z01 ?_))
 refine Zk [1, 2, 3, 5] ?_
 refine Z03 (Z00 (Zm ?_))
 refine Z17 H6 rfl rfl underlying26 ti5 rfl (.cons rfl ZR (.cons rfl ZR (.cons rfl ZR .nil))) rfl rfl rfl (fun b5_1 w7 H7 => ?_)
 refine l_mark H7 rfl rfl underlying26 underlying5 rfl rfl (fun v5_2 w8 H8 => ?_)
 obtain ⟨A2, c2, rfl, hv2⟩ := IB.sl (t := [48, 46, 49]) (H8.ii mem0)
 have H9 := St.frontL (l := [_, _]) H8
 simp only [Zca, Zna] at H9
 have H10 := St.frontL (l := [_, _]) H9
 simp only [Zca, Zna] at H10
 refine Z0N rfl rfl func16 rfl rfl (.cons rfl (.cons rfl (.cons rfl .nil))) (Z2v b L1 hL1 (10) A2 c2 [48, 46, 49] (by decide) w8 (St.rows (τ := cacW b L1) H10) (Z2B (τ := cacW b L1) H10 (A := As.iv _ _) (.head _) (R := fun w1 => IB w1 _ [48, 46, 49]) (fun w1 h => h))) ?_
 rintro _ w11 ⟨bb2, ro2, pl2, e2, L2, o2, rfl, hF2, hNe2, hCa2, hL2, hX⟩
 have H11 := hX _ _ _ _ H10
 simp only [cacW, List.cons_append, List.nil_append] at H11
 obtain ⟨rfl, rfl, rfl, rfl⟩ := wk2 hF2
 refine Zm ?_
 refine Zx (Zx (Zx (Zx (Zg ?_))))
 refine Zg ?_
 refine Zg ?_
 refine Zg (Z02 (Z01 ?_))
 refine Zk [1, 2, 3, 5, 6, 7, 9] ?_
 refine Z03 (Z00 (Zm ?_))
 refine Z17 H11 rfl rfl underlying26 ti5 rfl (.cons rfl ZR (.cons rfl ZR (.cons rfl ZR (.cons rfl ZR .nil)))) rfl rfl rfl (fun b6_1 w12 H12 => ?_)
 refine l_mark H12 rfl rfl underlying26 underlying5 rfl rfl (fun v6_2 w13 H13 => ?_)
 obtain ⟨A3, c3, rfl, hv3⟩ := IB.sl (t := [49, 101, 50, 51]) (H13.ii mem0)
 have H14 := St.frontL (l := [_, _]) H13
 simp only [Zca, Zna] at H14
 have H15 := St.frontL (l := [_, _]) H14
 simp only [Zca, Zna] at H15
 refine Z0N rfl rfl func16 rfl rfl (.cons rfl (.cons rfl (.cons rfl .nil))) (Z2v b L2 hL2 (10) A3 c3 [49, 101, 50, 51] (by decide) w13 (St.rows (τ := cacW b L2) H15) (Z2B (τ := cacW b L2) H15 (A := As.iv _ _) (.head _) (R := fun w1 => IB w1 _ [49, 101, 50, 51]) (fun w1 h => h))) ?_
 rintro _ w16 ⟨bb3, ro3, pl3, e3, L3, o3, rfl, hF3, hNe3, hCa3, hL3, hX⟩
 have H16 := hX _ _ _ _ H15
 simp only [cacW, List.cons_append, List.nil_append] at H16
 obtain ⟨rfl, rfl, rfl, rfl⟩ := wk3 hF3
 refine Zm ?_
 refine Zx (Zx (Zx (Zx (Zg ?_))))
 refine Zg ?_
 refine Zg ?_
 refine Zg (Z02 (Z01 ?_))
 refine Zk [1, 2, 3, 5, 6, 7, 9, 10, 11, 13] ?_
 refine Z03 (Z00 (Zm ?_))
 refine Z17 H16 rfl rfl underlying26 ti5 rfl (.cons rfl ZR (.cons rfl ZR (.cons rfl ZR (.cons rfl ZR (.cons rfl ZR (.cons rfl ZR (.cons rfl ZR (.cons rfl ZR (.cons rfl ZR (.cons rfl ZR (.cons rfl ZR (.cons rfl ZR (.cons rfl ZR (.cons rfl ZR (.cons rfl ZR (.cons rfl ZR (.cons rfl ZR (.cons rfl ZR (.cons rfl ZR (.cons rfl ZR (.cons rfl ZR (.cons rfl ZR (.cons rfl ZR (.cons rfl ZR (.cons rfl ZR (.cons rfl ZR (.cons rfl ZR (.cons rfl ZR (.cons rfl ZR (.cons rfl ZR (.cons rfl ZR (.cons rfl ZR (.cons rfl ZR (.cons rfl ZR (.cons rfl ZR (.cons rfl ZR (.cons rfl ZR .nil))))))))))))))))))))))))))))))))))))) rfl rfl rfl (fun b7_1 w17 H17 => ?_)
 refine l_mark H17 rfl rfl underlying26 underlying5 rfl rfl (fun v7_2 w18 H18 => ?_)
 obtain ⟨A4, c4, rfl, hv4⟩ := IB.sl (t := [57, 48, 48, 55, 49, 57, 57, 50, 53, 52, 55, 52, 48, 57, 57, 50, 46, 57, 57, 57, 57, 57, 57, 57, 57, 57, 57, 57, 57, 57, 57, 57, 57, 57, 57, 57, 57]) (H18.ii mem0)
 have H19 := St.frontL (l := [_, _]) H18
 simp only [Zca, Zna] at H19
 have H20 := St.frontL (l := [_, _]) H19
 simp only [Zca, Zna] at H20
 refine Z0N rfl rfl func16 rfl rfl (.cons rfl (.cons rfl (.cons rfl .nil))) (Z2v b L3 hL3 (10) A4 c4 [57, 48, 48, 55, 49, 57, 57, 50, 53, 52, 55, 52, 48, 57, 57, 50, 46, 57, 57, 57, 57, 57, 57, 57, 57, 57, 57, 57, 57, 57, 57, 57, 57, 57, 57, 57, 57] (by decide) w18 (St.rows (τ := cacW b L3) H20) (Z2B (τ := cacW b L3) H20 (A := As.iv _ _) (.head _) (R := fun w1 => IB w1 _ [57, 48, 48, 55, 49, 57, 57, 50, 53, 52, 55, 52, 48, 57, 57, 50, 46, 57, 57, 57, 57, 57, 57, 57, 57, 57, 57, 57, 57, 57, 57, 57, 57, 57, 57, 57, 57]) (fun w1 h => h))) ?_
 rintro _ w21 ⟨bb4, ro4, pl4, e4, L4, o4, rfl, hF4, hNe4, hCa4, hL4, hX⟩
 have H21 := hX _ _ _ _ H20
 simp only [cacW, List.cons_append, List.nil_append] at H21
 obtain ⟨rfl, rfl, rfl, rfl⟩ := wk4 hF4
 refine Zm ?_
 refine Zx (Zx (Zx (Zx (Zg ?_))))
 refine Zg ?_
 refine Zg ?_
 refine Zg (Z02 (Z01 ?_))
 refine Zk [2, 3, 5, 6, 7, 9, 10, 11, 13, 14, 15, 17] ?_
 refine Z03 (Z00 (Zm ?_))
 refine Ze ?_
 refine Z0q (s := 59) (v' := .bool true) rfl (by simp) ?_
 refine Zm ?_
 refine Zm ?_
 refine Ze ?_
 refine Z0q (s := 62) (v' := .bool true) rfl (by simp) ?_
 refine Z0Y rfl rfl rfl rfl ?_
 refine Zm ?_
 refine Zm ?_
 refine Ze ?_
 refine Z0q (s := 66) (v' := .bool true) rfl (by simp) ?_
 refine Z0Y rfl rfl rfl rfl ?_
 refine Zm ?_
 refine Zm ?_
 refine Ze ?_
 refine Z0q (s := 70) (v' := .bool true) rfl (by simp) ?_
 refine Z0Y rfl rfl rfl rfl ?_
 refine Zg (Z02 (Z01 ?_))
 refine Zk [3, 5, 7, 9, 11, 13, 15, 17, 18] ?_
 refine Z03 (Z00 (Zm ?_))
 refine Zm ?_
 refine Zm ?_
 refine Ze ?_
 refine Z0q (s := 75) (v' := .bool true) rfl (by simp) ?_
 refine Z0Y rfl rfl rfl rfl ?_
 refine Zm ?_
 refine Zm ?_
 refine Ze ?_
 refine Z0q (s := 79) (v' := .bool true) rfl (by simp) ?_
 refine Z0Y rfl rfl rfl rfl ?_
 refine Zm ?_
 refine Zm ?_
 refine Ze ?_
 refine Z0q (s := 83) (v' := .bool true) rfl (by simp) ?_
 refine Z0Y rfl rfl rfl rfl ?_
 refine Zm ?_
 refine Zm ?_
 refine Ze ?_
 refine Z0q (s := 87) (v' := .bool true) rfl (by simp) ?_
 refine Z0Y rfl rfl rfl rfl ?_
 refine Zm ?_
 refine Zm ?_
 refine Z0J rfl rfl func18 rfl rfl (.cons rfl .nil) (Z32 _ _) ?_
 refine Ze ?_
 refine Z0q (s := 92) (v' := .bool true) rfl (by simp) ?_
 refine Z0Y rfl rfl rfl rfl ?_
 refine Zm ?_
 refine Zm ?_
 refine Z0J rfl rfl func18 rfl rfl (.cons rfl .nil) (Z32 _ _) ?_
 refine Ze ?_
 refine Z0q (s := 97) (v' := .bool true) rfl (by simp) ?_
 refine Z0Y rfl rfl rfl rfl ?_
 refine Zm ?_
 refine Zm ?_
 refine Z0J rfl rfl func18 rfl rfl (.cons rfl .nil) (Z32 _ _) ?_
 refine Ze ?_
 refine Z0q (s := 102) (v' := .bool true) rfl (by simp) ?_
 refine Z0Y rfl rfl rfl rfl ?_
 refine Zm ?_
 refine Zm ?_
 refine Z0J rfl rfl func18 rfl rfl (.cons rfl .nil) (Z32 _ _) ?_
 refine Ze ?_
 refine Z0q (s := 107) (v' := .bool true) rfl (by simp) ?_
 refine Z0Y rfl rfl rfl rfl ?_
 refine Zg (Z02 (Z01 ?_))
 refine Zk [0] ?_
 refine Z0f ?_
 refine Z0l results12 rfl ?_
 refine ⟨_, rfl, ?_⟩
 have H27 := St.del .head (St.del (.tail .head) (St.del (.tail (.tail .head)) (St.del (.tail (.tail (.tail .head))) (St.del (.tail (.tail (.tail (.tail .head)))) (St.del (.tail (.tail (.tail (.tail (.tail .head))))) H21)))))
 exact ⟨rfl, H27.grows⟩
section
variable {P : Program} {w0 w w' w1 : World} {B : Nat} {M : Nat → Prop} {σ τ : List As}
theorem Z4n {F : Nat → Prop} {R : World → Prop} (hw : St w0 w0.heap.size F (τ ++ σ) w) (hb : ∀ w1 : World, (∀ k, k < w0.heap.size → ¬ F k → w1.heap[k]? = w0.heap[k]?) → R w1) : ∀ w1 : World, (∀ k, k < w.heap.size → ¬ fps τ k → w1.heap[k]? = w.heap[k]?) → R w1 := fun w1 h1 =>
 hb w1 fun k hk hf => (h1 k (Nat.lt_of_lt_of_le hk hw.ext.size) fun ⟨A, hA, h⟩ => by
  rcases (hw.sep.lt (List.mem_append_left _ hA) k h).1 with h | h
  ·omega
  exact hf h).trans (hw.ext.block k hk hf)
end
section
open Go.ChangeShapes Go.WideShapes Go.ChangeAt Go.RowKit
theorem open_u8 {P : Program} {W : World} {r : Reach} {b0 : Nat} {t : TypeId} {v : Value} (ht : P.underlying t = some (.int .u8)) (hval : Value.okWide P W r b0 t v) : ∃ n, v = .int .u8 n ∧ 0 ≤ n ∧ n ≤ 255 := by
 have h : Cell.okWide P W r b0 t v := by simpa only [Value.okWide, ht] using hval
 obtain ⟨n, rfl, hn⟩ := cell_int ht h
 have e1 : IntKind.min .u8 = 0 := by decide
 have e2 : IntKind.max .u8 = 255 := by decide
 have h' : IntKind.min .u8 ≤ n ∧ n ≤ IntKind.max .u8 := hn
 rw [e1, e2] at h'
 exact ⟨n, rfl, h'⟩
end
theorem u8_of {n : Int} (h : 0 ≤ n ∧ n ≤ 255) : ∃ c : UInt8, n = (c.toNat : Int) := ⟨UInt8.ofNat n.toNat, by rw [UInt8.toNat_ofNat']; omega⟩
theorem Z1h.exists (t : L8) : ∃ ng wd man x more p e, Z1h t ng wd man x more p e := by
 have hr := Z4R t
 generalize Z3G t = z at hr
 obtain ⟨ng, wd, W, F, x, p, e⟩ := z
 dsimp only at hr
 by_cases he : e = 0
 ·subst he
  by_cases hn : ¬ wd = 0 ∨ Z0P (W ++ F) = []
  ·exact ⟨_, _, _, _, _, _, _, .nil hr hn⟩
  have hw : wd = 0 := Classical.not_not.1 fun h => hn (.inl h)
  subst hw
  exact ⟨_, _, _, _, _, _, _, .num hr (fun h => hn (.inr h)) rfl⟩
 exact ⟨_, _, _, _, _, _, _, .err hr he⟩
theorem Z1W.exists (t : L8) (k : Int) : ∃ o, Z1W t k o := by
 obtain ⟨ng, wd, man, x, more, p, e, hs⟩ := Z1h.exists t
 cases hk : kd k with
 | none => exact ⟨none, .kind hk⟩
 | some d =>
  by_cases he : e = 0
  ·subst he
   by_cases hw : wdP wd man
   ·exact ⟨none, .word hk hs hw⟩
   by_cases hh : shP k man x more
   ·exact ⟨none, .short hk hs hw hh⟩
   by_cases hx : inQ x
   ·exact ⟨some x, .ask hk hs hw hh hx⟩
   exact ⟨none, .far hk hs hw hh hx⟩
  exact ⟨none, .err hk hs he⟩
theorem Z1W.in {t : L8} {k q : Int} (h : Z1W t k (some q)) : inQ q := by
 cases h with
 | ask _ _ _ _ hx => exact hx
theorem Z4o {t : L8} {k : Int} {o : Option Int} (h : Z1W t k o) : 0 ≤ Z2N o ∧ Z2N o ≤ 40 ∧ ∀ q, o = some q → Z2N o = (q + 342) / 16 := by
 cases o with
 | none => exact ⟨by decide, by decide, fun q h => by cases h⟩
 | some q =>
  have hq := h.in
  unfold inQ at hq
  have e : Z2N (some q) = (q + 342) / 16 := by
   show (Z1s q).1 = _
   unfold Z1s
   rw [if_neg ZO]
  exact ⟨ZO, ZO, fun q' h' => by cases h'; exact e⟩
theorem heldOne : ∀ s : Fin 41, heldF (fun t => decide (t = s.val)) 41 = (Z0E (s.val : Int)).2.1 ∧ (Z0E (s.val : Int)).2.2 = 0 := by decide +kernel
theorem held_need {t : L8} {k : Int} {o : Option Int} {L' : Cac} (h : Z1W t k o) (hc : CaO (List.replicate 41 none) o L') :
  Z2h L' 41 = (if o.isSome = true then (Z0E (Z2N o)).2.1 else 0) ∧ (o.isSome = true → (Z0E (Z2N o)).2.2 = 0 ∧ hasP L' (Z2N o).toNat = true) := by
 cases o with
 | none =>
  obtain rfl : L' = List.replicate 41 none := hc
  exact ⟨held0, fun h => by cases h⟩
 | some q =>
  have hq := h.in
  have hq2 := hq
  unfold inQ at hq2
  have hQ : CacQ (List.replicate 41 none) q L' := hc
  have hb := Z4o h
  have hs := hb.2.2 q rfl
  have hh : ∀ t, hasP L' t = decide (t = (Z2N (some q)).toNat) := fun t => by
   rw [hQ.has, has0, Bool.or_false, hs, decide_eq_decide]
   exact ⟨fun h => h.2, fun h => ⟨hq, h⟩⟩
  have h1 := heldOne ⟨(Z2N (some q)).toNat, ZO⟩
  dsimp only at h1
  rw [show (((Z2N (some q)).toNat : Nat) : Int) = Z2N (some q) by omega] at h1
  refine ⟨?_, fun _ => ⟨h1.2, by rw [hh]; simp⟩⟩
  show Z2h L' 41 = (Z0E (Z2N (some q))).2.1
  rw [Z4P 41 (fun t _ => hh t)]
  exact h1.1
theorem roadS_ge {d : Kd} {k man x : Int} {more : Bool} (h : ¬ shP k man x more) : 3 ≤ Z4M d k man x more := by
 unfold Z4M
 rw [if_neg h]
 split <;> omega
theorem road_need {t : L8} {k b r p e : Int} {o : Option Int} (h : Z1W t k o) (hf : FlR t k b r p e) : (o.isSome = true → (e = 0 ∨ e = 90) ∧ 3 ≤ r) ∧ (o.isSome = false → ¬ r = 3) := by
 cases hf with
 | kind h2 =>
  cases h with
  | kind _ => exact ⟨fun h => (by cases h), fun _ => by omega⟩
  | err h3 _ _ => rw [h2] at h3; cases h3
  | word h3 _ _ => rw [h2] at h3; cases h3
  | short h3 _ _ _ => rw [h2] at h3; cases h3
  | far h3 _ _ _ _ => rw [h2] at h3; cases h3
  | ask h3 _ _ _ _ => rw [h2] at h3; cases h3
 | err h2 hs he =>
  refine ⟨fun ho => ?_, fun _ => by omega⟩
  cases h with
  | ask _ hs2 _ _ _ => obtain ⟨_, _, _, _, _, _, h3⟩ := hs.unique hs2; exact absurd h3 he
  | _ => cases ho
 | word h2 hs hw =>
  refine ⟨fun ho => ?_, fun _ => by omega⟩
  cases h with
  | ask _ hs2 H2 _ _ => obtain ⟨rfl, rfl, rfl, rfl, rfl, rfl, _⟩ := hs.unique hs2; exact absurd hw H2
  | _ => cases ho
 | num h2 hs hw hx ht =>
  have hno : ∀ {d' : Kd} {ng more : Bool} {wd man x p : Int}, Z1h t ng wd man x more p 0 → wdP wd man → False := fun hs2 H2 => by
   obtain ⟨rfl, rfl, rfl, rfl, rfl, rfl, _⟩ := hs.unique hs2; exact hw H2
  cases h with
  | kind h3 => rw [h2] at h3; cases h3
  | err _ hs2 he => obtain ⟨_, _, _, _, _, _, h3⟩ := hs.unique hs2; exact absurd h3.symm he
  | word _ hs2 H2 => exact (hno (d' := .f32) hs2 H2).elim
  | short _ hs2 _ hh =>
   obtain ⟨rfl, rfl, rfl, rfl, rfl, rfl, _⟩ := hs.unique hs2
   exact ⟨fun h => (by cases h), fun _ => by rw [roadS_2 hh]; omega⟩
  | far _ hs2 _ hh hx2 =>
   obtain ⟨rfl, rfl, rfl, rfl, rfl, rfl, _⟩ := hs.unique hs2
   exact ⟨fun h => (by cases h), fun _ => by rw [roadS_4 hh (fun h => absurd h hx2)]; omega⟩
  | ask _ hs2 _ hh hx2 =>
   obtain ⟨rfl, rfl, rfl, rfl, rfl, rfl, _⟩ := hs.unique hs2
   exact ⟨fun _ => ⟨by split <;> omega, roadS_ge hh⟩, fun h => by cases h⟩
theorem parseNeeds0 (n : Int) (hn : -9223372036854775808 ≤ n ∧ n ≤ 9223372036854775807) (v : Value) (l : L8) (hNe : Z1W (l.take 1100) (9 + n % 2) none) (w : World) (hv : IB w v l) :
  Z0g P 8 [.int .i64 n, v] w fun r w' => r = .bool true ∧ Grow w w' [] := by
 refine Z0o func8 rfl ntmps8 rfl ?_
 have H0 := St.start w
 obtain ⟨t, ht⟩ : ∃ t, t = l.take 1100 := ⟨_, rfl⟩
 have htl : t.length ≤ 1100 := by rw [ht, List.length_take]; omega
 obtain ⟨d, hk⟩ := kd_fit n
 refine Z03 (Z00 (Zg (Z02 (Z01 ?_))))
 refine Zk [0, 1] ?_
 refine Z03 (Z00 (Zm ?_))
 refine Zc func13 (cutK v l 1100 w hv) ?_
 rintro va _ ⟨hv1, rfl⟩
 rw [← ht] at hv1
 obtain ⟨A, c, rfl, hv1⟩ := IB.sl hv1
 rw [← ht] at hNe
 have hnb := Z4o hNe
 refine Zg (Z02 (Z01 ?_))
 refine Zk [0, 1] ?_
 refine Z03 (Z00 ?_)
 refine Zc func11 (newC w) ?_
 rintro _ w1 ⟨b, rfl, hG⟩
 have H1 := hG _ _ _ _ H0
 simp only [Zca, Zna] at H1
 refine Zg (Z02 (Z01 ?_))
 refine Zk [0, 1, 5] ?_
 refine Z03 (Z03 (Z00 (Zm ?_)))
 refine l_eqlp ZK rfl rfl rfl rfl ?_
 refine Z0q (s := 21) (v' := .bool false) rfl (by rfl) ?_
 refine Zm ?_
 refine Zc func12 (Z4m w1) ?_
 rintro _ w2 ⟨rfl, hG⟩
 have H2 := hG _ _ _ _ H1
 simp only [Zca, Zna] at H2
 first | refine Z1c rfl rfl rfl ?_ | refine Z1N rfl rfl rfl ?_
 refine Z0q (s := 24) (v' := .bool false) rfl (by rfl) ?_
 refine Z1a rfl rfl rfl rfl ?_
 refine Z02 (Z01 ?_)
 refine Zk [0, 1, 5, 25] ?_
 refine Z1D rfl rfl ?_
 refine Z09 (Z01 ?_)
 refine Zk [0, 1, 5] ?_
 refine Z03 (Z00 (Zm ?_))
 refine Z1d rfl rfl rfl rfl rfl (and_i1 hn) ?_
 refine Z0t rfl rfl rfl rfl (Z0h ZO) ?_
 refine Zg (Z02 (Z01 ?_))
 refine Zk [1, 5, 6] ?_
 refine Z03 (Z00 (Zm ?_))
 refine Zm ?_
 refine Zc func24 (NeedPP (9 + n % 2) A c t ZO w2 (H2.iarg hv1)) ?_
 rintro _ w3 ⟨o2, rfl, hNe2, hG⟩
 have H3 := hG _ _ _ _ H2
 simp only [Zca, Zna] at H3
 obtain rfl := hNe.unique hNe2
 refine Zm ?_
 refine Zx (Zx (Zg ?_))
 refine Zg (Z02 (Z01 ?_))
 refine Zk [1, 5, 6, 7, 8] ?_
 refine Z03 (Z00 (Zm ?_))
 refine Zm ?_
 refine Zm ?_
 have H4 := St.frontL (l := [_]) H3
 simp only [Zca, Zna] at H4
 have H5 := St.frontL (l := [_]) H4
 simp only [Zca, Zna] at H5
 refine Zc func16 (Z2v b (List.replicate 41 none) (List.length_replicate ..) (9 + n % 2) A c t ZO w3 (St.rows (τ := cacW b (List.replicate 41 none)) H5) ((Z4n (F := Z0B) (τ := cacW b (List.replicate 41 none)) H5 (fun w1 h1 => IV.mono hv1 fun j hj => h1 j hj (fun e => e))))) ?_
 rintro _ w6 ⟨bbx, rox, plx, ex, Lx, ox, rfl, hFx, hNex, hCax, hLx, hX⟩
 have H6 := hX _ _ _ _ H5
 simp only [cacW, List.cons_append, List.nil_append] at H6
 obtain rfl := hNe.unique hNex
 have hH := held_need hNe hCax
 have hR := road_need hNe hFx
 simp only [Option.isSome_some, Option.isSome_none, if_true, if_false, Bool.false_eq_true, true_implies, false_implies, and_true, reduceCtorEq] at hH hR
 refine Zm ?_
 refine Zx (Zx (Zx (Zx (Zg ?_))))
 refine Zg ?_
 refine Zg ?_
 refine Zg (Z02 (Z01 ?_))
 refine Zk [5, 7, 8, 10, 12] ?_
 refine Z03 (Z00 (Zm ?_))
 refine Zp func28 (firstR (Z2N none) ZO _) ?_
 refine Zm ?_
 refine Zx (Zx (Zx (Zg ?_)))
 refine Zg ?_
 refine Zg (Z02 (Z01 ?_))
 refine Zk [5, 7, 8, 10, 12, 14, 15] ?_
 refine Z0R (ι := Int) (fun (m1 : Int) (w' : World) => St w w.heap.size Z0B (cacW b Lx) w' ∧ m1 = Z2h Lx 41) (fun (m1 : Int) => [(14, .int .i64 m1)]) [5, 7, 8, 10, 12, 15] (.cons rfl (.cons rfl (.cons rfl (.cons rfl (.cons rfl (.cons rfl .nil)))))) ?_ ?_
 ·refine Z03 (Z00 (Zm ?_))
  first | refine Z1c rfl rfl rfl ?_ | refine Z1N rfl rfl rfl ?_
  refine Z0q (s := 51) (v' := .bool true) rfl (by rfl) ?_
  refine Z02 (Z01 ?_)
  refine Zk [5, 7, 8, 10, 12, 14, 15, 51] ?_
  refine c_cond_t rfl rfl ?_
  refine Z00 (Zg (Z02 ?_))
  have H7 := St.frontL (l := [_]) H6
  simp only [Zca, Zna] at H7
  have H8 := St.frontL (l := [_]) H7
  simp only [Zca, Zna] at H8
  refine Z0s (0) ?_ (.cons rfl (.cons rfl (.cons rfl (.cons rfl (.cons rfl (.cons rfl .nil)))))) ?_
  ·exact ⟨H8, hH.symm⟩
  exact (.cons rfl ZN .nil)
 rintro m1 w9 ⟨H9, hm1⟩
 subst hm1
 show RunC P _ _ _ (_ :: _) _
 refine Z03 (Z03 (Z00 (Zm ?_)))
 refine Z0J rfl rfl func29 rfl rfl (.cons rfl .nil) (HeldC b Lx hLx _ (H9.ok mem0) (H9.ok mem1)) ?_
 refine Zm ?_
 refine Zo ?_
 refine Z0q (s := 55) (v' := .bool false) rfl (by simp) ?_
 refine Zm ?_
 refine Zm ?_
 refine Z0q (s := 57) (v' := .bool false) rfl (by rfl) ?_
 refine Zm ?_
 refine Z1C rfl rfl ?_
 refine Z1C rfl rfl ?_
 refine Z1C rfl rfl ?_
 refine Z1C rfl rfl ?_
 refine Z1C rfl rfl ?_
 refine Z1C rfl rfl ?_
 refine Z1C rfl rfl ?_
 refine Z1C rfl rfl ?_
 refine Z1a rfl rfl rfl rfl ?_
 refine Z1a rfl rfl rfl rfl ?_
 refine Z02 (Z01 ?_)
 refine Zk [8, 10, 12, 68] ?_
 refine Z1D rfl rfl ?_
 refine Z09 (Z01 ?_)
 refine Zk [8, 10, 12] ?_
 refine Z03 (Z00 (Zm ?_))
 refine Z0J rfl rfl func18 rfl rfl (.cons rfl .nil) (Z32 _ _) ?_
 refine Ze ?_
 refine Zm ?_
 apply l_or 3 [8, 10] rfl rfl (.cons rfl (.cons rfl (.cons rfl .nil))) rfl rfl (fun _ => rfl) rfl rfl rfl
 ·intro hg13_4
  refine Zm ?_
  refine Z0J rfl rfl func18 rfl rfl (.cons rfl .nil) (Z32 _ _) ?_
  refine Ze ?_
  refine Z02 ?_
  exact Z0n rfl (.cons rfl (ZF hg13_4) (.cons rfl rfl (.cons rfl rfl .nil)))
 refine Zg (Z02 (Z01 ?_))
 refine Zk [8, 10, 16] ?_
 refine Z03 (Z00 (Zm ?_))
 first | refine Z1c rfl rfl rfl ?_ | refine Z1N rfl rfl rfl ?_
 refine Z0q (s := 78) (v' := .bool true) rfl (by rfl) ?_
 refine Zm ?_
 refine Z1C rfl rfl ?_
 refine Z1C rfl rfl ?_
 refine Z1C rfl rfl ?_
 refine Z1C rfl rfl ?_
 refine Z1C rfl rfl ?_
 refine Z0Y rfl rfl rfl rfl ?_
 refine Zm ?_
 refine Zm ?_
 refine Zo ?_
 refine Z0q (s := 88) (v' := .bool true) rfl (by simp; omega) ?_
 refine Zm ?_
 refine Z1C rfl rfl ?_
 refine Z0Y rfl rfl rfl rfl ?_
 refine Z0Y rfl rfl rfl rfl ?_
 refine Zg (Z02 (Z01 ?_))
 refine Zk [4] ?_
 refine Z0f ?_
 refine Z0l results8 rfl ?_
 refine ⟨_, rfl, ?_⟩
 have H11 := St.del .head (St.del (.tail .head) H9)
 exact ⟨rfl, H11.grows⟩
theorem parseNeeds1 (n : Int) (hn : -9223372036854775808 ≤ n ∧ n ≤ 9223372036854775807) (v : Value) (l : L8) (q : Int) (hNe : Z1W (l.take 1100) (9 + n % 2) (some q)) (w : World) (hv : IB w v l) :
  Z0g P 8 [.int .i64 n, v] w fun r w' => r = .bool true ∧ Grow w w' [] := by
 refine Z0o func8 rfl ntmps8 rfl ?_
 have H0 := St.start w
 obtain ⟨t, ht⟩ : ∃ t, t = l.take 1100 := ⟨_, rfl⟩
 have htl : t.length ≤ 1100 := by rw [ht, List.length_take]; omega
 obtain ⟨d, hk⟩ := kd_fit n
 refine Z03 (Z00 (Zg (Z02 (Z01 ?_))))
 refine Zk [0, 1] ?_
 refine Z03 (Z00 (Zm ?_))
 refine Zc func13 (cutK v l 1100 w hv) ?_
 rintro va _ ⟨hv1, rfl⟩
 rw [← ht] at hv1
 obtain ⟨A, c, rfl, hv1⟩ := IB.sl hv1
 rw [← ht] at hNe
 have hnb := Z4o hNe
 refine Zg (Z02 (Z01 ?_))
 refine Zk [0, 1] ?_
 refine Z03 (Z00 ?_)
 refine Zc func11 (newC w) ?_
 rintro _ w1 ⟨b, rfl, hG⟩
 have H1 := hG _ _ _ _ H0
 simp only [Zca, Zna] at H1
 refine Zg (Z02 (Z01 ?_))
 refine Zk [0, 1, 5] ?_
 refine Z03 (Z03 (Z00 (Zm ?_)))
 refine l_eqlp ZK rfl rfl rfl rfl ?_
 refine Z0q (s := 21) (v' := .bool false) rfl (by rfl) ?_
 refine Zm ?_
 refine Zc func12 (Z4m w1) ?_
 rintro _ w2 ⟨rfl, hG⟩
 have H2 := hG _ _ _ _ H1
 simp only [Zca, Zna] at H2
 first | refine Z1c rfl rfl rfl ?_ | refine Z1N rfl rfl rfl ?_
 refine Z0q (s := 24) (v' := .bool false) rfl (by rfl) ?_
 refine Z1a rfl rfl rfl rfl ?_
 refine Z02 (Z01 ?_)
 refine Zk [0, 1, 5, 25] ?_
 refine Z1D rfl rfl ?_
 refine Z09 (Z01 ?_)
 refine Zk [0, 1, 5] ?_
 refine Z03 (Z00 (Zm ?_))
 refine Z1d rfl rfl rfl rfl rfl (and_i1 hn) ?_
 refine Z0t rfl rfl rfl rfl (Z0h ZO) ?_
 refine Zg (Z02 (Z01 ?_))
 refine Zk [1, 5, 6] ?_
 refine Z03 (Z00 (Zm ?_))
 refine Zm ?_
 refine Zc func24 (NeedPP (9 + n % 2) A c t ZO w2 (H2.iarg hv1)) ?_
 rintro _ w3 ⟨o2, rfl, hNe2, hG⟩
 have H3 := hG _ _ _ _ H2
 simp only [Zca, Zna] at H3
 obtain rfl := hNe.unique hNe2
 refine Zm ?_
 refine Zx (Zx (Zg ?_))
 refine Zg (Z02 (Z01 ?_))
 refine Zk [1, 5, 6, 7, 8] ?_
 refine Z03 (Z00 (Zm ?_))
 refine Zm ?_
 refine Zm ?_
 have H4 := St.frontL (l := [_]) H3
 simp only [Zca, Zna] at H4
 have H5 := St.frontL (l := [_]) H4
 simp only [Zca, Zna] at H5
 refine Zc func16 (Z2v b (List.replicate 41 none) (List.length_replicate ..) (9 + n % 2) A c t ZO w3 (St.rows (τ := cacW b (List.replicate 41 none)) H5) ((Z4n (F := Z0B) (τ := cacW b (List.replicate 41 none)) H5 (fun w1 h1 => IV.mono hv1 fun j hj => h1 j hj (fun e => e))))) ?_
 rintro _ w6 ⟨bbx, rox, plx, ex, Lx, ox, rfl, hFx, hNex, hCax, hLx, hX⟩
 have H6 := hX _ _ _ _ H5
 simp only [cacW, List.cons_append, List.nil_append] at H6
 obtain rfl := hNe.unique hNex
 have hH := held_need hNe hCax
 have hR := road_need hNe hFx
 simp only [Option.isSome_some, Option.isSome_none, if_true, if_false, Bool.false_eq_true, true_implies, false_implies, and_true, reduceCtorEq] at hH hR
 refine Zm ?_
 refine Zx (Zx (Zx (Zx (Zg ?_))))
 refine Zg ?_
 refine Zg ?_
 refine Zg (Z02 (Z01 ?_))
 refine Zk [5, 7, 8, 10, 12] ?_
 refine Z03 (Z00 (Zm ?_))
 refine Zp func28 (firstR (Z2N (some q)) ZO _) ?_
 refine Zm ?_
 refine Zx (Zx (Zx (Zg ?_)))
 refine Zg ?_
 refine Zg (Z02 (Z01 ?_))
 refine Zk [5, 7, 8, 10, 12, 14, 15] ?_
 refine Z0R (ι := Int) (fun (m1 : Int) (w' : World) => St w w.heap.size Z0B (cacW b Lx) w' ∧ m1 = Z2h Lx 41) (fun (m1 : Int) => [(14, .int .i64 m1)]) [5, 7, 8, 10, 12, 15] (.cons rfl (.cons rfl (.cons rfl (.cons rfl (.cons rfl (.cons rfl .nil)))))) ?_ ?_
 ·refine Z03 (Z00 (Zm ?_))
  first | refine Z1c rfl rfl rfl ?_ | refine Z1N rfl rfl rfl ?_
  refine Z0q (s := 51) (v' := .bool false) rfl (by rfl) ?_
  refine Z02 (Z01 ?_)
  refine Zk [5, 7, 8, 10, 12, 14, 15, 51] ?_
  refine Z1D rfl rfl ?_
  refine Z09 ?_
  have H7 := St.frontL (l := [_]) H6
  simp only [Zca, Zna] at H7
  have H8 := St.frontL (l := [_]) H7
  simp only [Zca, Zna] at H8
  refine Z0s ((Z0E (Z2N (some q))).2.1) ?_ (.cons rfl (.cons rfl (.cons rfl (.cons rfl (.cons rfl (.cons rfl .nil)))))) ?_
  ·exact ⟨H8, hH.1.symm⟩
  exact (.cons rfl ZN .nil)
 rintro m1 w9 ⟨H9, hm1⟩
 subst hm1
 show RunC P _ _ _ (_ :: _) _
 refine Z03 (Z03 (Z00 (Zm ?_)))
 refine Z0J rfl rfl func29 rfl rfl (.cons rfl .nil) (HeldC b Lx hLx _ (H9.ok mem0) (H9.ok mem1)) ?_
 refine Zm ?_
 refine Zo ?_
 refine Z0q (s := 55) (v' := .bool false) rfl (by simp) ?_
 refine Zm ?_
 refine Zm ?_
 refine Z0q (s := 57) (v' := .bool true) rfl (by rfl) ?_
 refine Zm ?_
 refine Zm ?_
 refine Zo ?_
 refine Z0q (s := 60) (v' := .bool false) rfl (by rw [hH.2.1]; rfl) ?_
 refine Zm ?_
 refine Zm ?_
 refine Zm ?_
 refine Z0J rfl rfl func30 rfl rfl (.cons rfl (.cons rfl .nil)) (BuiltC b Lx hLx _ _ (H9.ok mem0) (H9.ok mem1)) ?_
 refine Zo ?_
 refine Z0q (s := 65) (v' := .bool false) rfl (by rw [if_pos ⟨ZO, hH.2.2⟩]; rfl) ?_
 refine Z1a rfl rfl rfl rfl ?_
 refine Z0Y rfl rfl rfl rfl ?_
 refine Z1a rfl rfl rfl rfl ?_
 refine Z02 (Z01 ?_)
 refine Zk [8, 10, 12, 68] ?_
 refine Z1D rfl rfl ?_
 refine Z09 (Z01 ?_)
 refine Zk [8, 10, 12] ?_
 refine Z03 (Z00 (Zm ?_))
 refine Z0J rfl rfl func18 rfl rfl (.cons rfl .nil) (Z32 _ _) ?_
 refine Ze ?_
 refine Zm ?_
 apply l_or 3 [8, 10] rfl rfl (.cons rfl (.cons rfl (.cons rfl .nil))) rfl rfl (fun _ => rfl) rfl rfl rfl
 ·intro hg13_4
  refine Zm ?_
  refine Z0J rfl rfl func18 rfl rfl (.cons rfl .nil) (Z32 _ _) ?_
  refine Ze ?_
  refine Z02 ?_
  exact Z0n rfl (.cons rfl (ZF hg13_4) (.cons rfl rfl (.cons rfl rfl .nil)))
 refine Zg ?_
 refine Z0q (s := 16) (v' := .bool true) rfl (by have := hR.1; simp; omega) ?_
 refine Z02 (Z01 ?_)
 refine Zk [8, 10, 16] ?_
 refine Z03 (Z00 (Zm ?_))
 first | refine Z1c rfl rfl rfl ?_ | refine Z1N rfl rfl rfl ?_
 refine Z0q (s := 78) (v' := .bool false) rfl (by rfl) ?_
 refine Zm ?_
 refine Zm ?_
 refine Zm ?_
 refine Zm ?_
 refine Zh ?_
 refine Z0q (s := 83) (v' := .bool true) rfl (by have := hR.2; simp; omega) ?_
 refine Z0Y rfl rfl rfl rfl ?_
 refine Z1a rfl rfl rfl rfl ?_
 refine Zm ?_
 refine Zm ?_
 refine Zo ?_
 refine Zm ?_
 refine Z0q (s := 8) (v' := .bool (decide True)) rfl rfl ?_
 apply l_or 1 [86] rfl rfl (.cons rfl (.cons rfl .nil)) rfl rfl (fun _ => rfl) rfl rfl rfl
 ·intro hg14_13
  refine Zm (Z02 ?_)
  exact Z0n rfl (.cons rfl (ZF hg14_13) (.cons rfl rfl .nil))
 refine Z0q (s := 91) (v' := .bool true) rfl (by simp) ?_
 refine Z0Y rfl rfl rfl rfl ?_
 refine Zg (Z02 (Z01 ?_))
 refine Zk [4] ?_
 refine Z0f ?_
 refine Z0l results8 rfl ?_
 refine ⟨_, rfl, ?_⟩
 have H11 := St.del .head (St.del (.tail .head) H9)
 exact ⟨rfl, H11.grows⟩
theorem parseNeedsL (n : Int) (hn : -9223372036854775808 ≤ n ∧ n ≤ 9223372036854775807) (v : Value) (l : L8) (w : World) (hv : IB w v l) : Z0g P 8 [.int .i64 n, v] w fun r w' => r = .bool true ∧ Grow w w' [] := by
 obtain ⟨o, ho⟩ := Z1W.exists (l.take 1100) (9 + n % 2)
 cases o with
 | none => exact parseNeeds0 n hn v l ho w hv
 | some q => exact parseNeeds1 n hn v l q ho w hv
theorem tab_agree {t : L8} {k bb road place e wd man x p es b2 e2 : Int} {ng more ok : Bool} (hf : FlR t k bb road place e) (he : e = 0) (hr : ¬ road = 1) (hs : Z1h t ng wd man x more p es) (hT : TabR k ng wd man x more b2 ok e2) (ho : ok = true) : b2 = bb := by
 cases hf with
 | kind _ => omega
 | err _ _ h => exact absurd he h
 | word _ _ _ => exact absurd rfl hr
 | num h2 hs2 hw hx ht =>
  obtain ⟨rfl, rfl, rfl, rfl, rfl, rfl, rfl⟩ := hs.unique hs2
  obtain ⟨Ln, q, xx, hnum⟩ := num_any hs
  have hN := hnum hw
  by_cases hq : inQ x
  ·rcases tab_is h2 hw hq hN hT with ⟨_, tt, hf, _, hb, _⟩ | ⟨_, h3, _⟩
   ·obtain ⟨rfl, rfl, _⟩ := hx.unique hN.ex
    rw [hb, hf.unique ht]
   rw [ho] at h3; cases h3
  cases hT with
  | kind h3 => rw [h2] at h3; cases h3
  | word _ H2 => exact absurd H2 hw
  | far _ _ _ => cases ho
  | ends _ _ hq2 _ _ => exact absurd hq2 hq
theorem Z1h.any {t : L8} {ng more : Bool} {wd man x p e : Int} (h : Z1h t ng wd man x more p e) : 0 ≤ man ∧ man ≤ 18446744073709551615 ∧ -110000 ≤ x ∧ x ≤ 110000 := by
 by_cases he : e = 0
 ·subst he; exact h.bds
 cases h with
 | err _ _ => omega
 | nil _ _ => exact absurd rfl he
 | num _ _ _ => exact absurd rfl he
theorem parseAgreeL (n : Int) (hn : -9223372036854775808 ≤ n ∧ n ≤ 9223372036854775807) (v : Value) (l : L8) (w : World) (hv : IB w v l) :
  Z0g P 7 [.int .i64 n, v] w fun r w' => r = .bool true ∧ Grow w w' [] := by
 refine Z0o func7 rfl ntmps7 rfl ?_
 have H0 := St.start w
 obtain ⟨t, ht⟩ : ∃ t, t = l.take 1100 := ⟨_, rfl⟩
 have htl : t.length ≤ 1100 := by rw [ht, List.length_take]; omega
 obtain ⟨d, hk⟩ := kd_fit n
 refine Z03 (Z00 (Zg (Z02 (Z01 ?_))))
 refine Zk [0, 1] ?_
 refine Z03 (Z00 (Zm ?_))
 refine Zc func13 (cutK v l 1100 w hv) ?_
 rintro va _ ⟨hv1, rfl⟩
 rw [← ht] at hv1
 obtain ⟨A, c, rfl, hv1⟩ := IB.sl hv1
 refine Zg (Z02 (Z01 ?_))
 refine Zk [0, 1] ?_
 refine Z03 (Z00 ?_)
 refine Zc func11 (newC w) ?_
 rintro _ w1 ⟨b, rfl, hG⟩
 have H1 := hG _ _ _ _ H0
 simp only [Zca, Zna] at H1
 refine Zg (Z02 (Z01 ?_))
 refine Zk [0, 1, 5] ?_
 refine Z03 (Z03 (Z00 (Zm ?_)))
 refine l_eqlp ZK rfl rfl rfl rfl ?_
 refine Z0q (s := 27) (v' := .bool false) rfl (by rfl) ?_
 refine Zm ?_
 refine Zc func12 (Z4m w1) ?_
 rintro _ w2 ⟨rfl, hG⟩
 have H2 := hG _ _ _ _ H1
 simp only [Zca, Zna] at H2
 first | refine Z1c rfl rfl rfl ?_ | refine Z1N rfl rfl rfl ?_
 refine Z0q (s := 30) (v' := .bool false) rfl (by rfl) ?_
 refine Z1a rfl rfl rfl rfl ?_
 refine Z02 (Z01 ?_)
 refine Zk [0, 1, 5, 31] ?_
 refine Z1D rfl rfl ?_
 refine Z09 (Z01 ?_)
 refine Zk [0, 1, 5] ?_
 refine Z03 (Z00 (Zm ?_))
 refine Z1d rfl rfl rfl rfl rfl (and_i1 hn) ?_
 refine Z0t rfl rfl rfl rfl (Z0h ZO) ?_
 refine Zg (Z02 (Z01 ?_))
 refine Zk [1, 5, 6] ?_
 refine Z03 (Z00 (Zm ?_))
 refine Zm ?_
 refine Zm ?_
 have H3 := St.frontL (l := [_]) H2
 simp only [Zca, Zna] at H3
 have H4 := St.frontL (l := [_]) H3
 simp only [Zca, Zna] at H4
 refine Zc func16 (Z2v b (List.replicate 41 none) (List.length_replicate ..) (9 + n % 2) A c t ZO w2 (St.rows (τ := cacW b (List.replicate 41 none)) H4) ((Z4n (F := Z0B) (τ := cacW b (List.replicate 41 none)) H4 (fun w1 h1 => IV.mono hv1 fun j hj => h1 j hj (fun e => e))))) ?_
 rintro _ w5 ⟨bb1, ro1, pl1, e1, L1, o1, rfl, hF1, hNe1, hCa1, hL1, hX⟩
 have H5 := hX _ _ _ _ H4
 simp only [cacW, List.cons_append, List.nil_append] at H5
 refine Zm ?_
 refine Zx (Zx (Zx (Zx (Zg ?_))))
 refine Zg ?_
 refine Zg ?_
 refine Zg (Z02 (Z01 ?_))
 refine Zk [1, 5, 6, 7, 8, 10] ?_
 refine Z03 (Z00 (Zm ?_))
 refine Zm ?_
 refine Zc func22 (ExactPP (9 + n % 2) A c t ZO w5 (H5.iarg hv1)) ?_
 rintro _ w6 ⟨bbe, roe, ple, ee, rfl, hFe, hG⟩
 have H6 := hG _ _ _ _ H5
 simp only [Zca, Zna] at H6
 obtain ⟨rfl, _, _, rfl⟩ := hF1.unique hFe
 refine Zm ?_
 refine Zx (Zx (Zg ?_))
 refine Zg (Z02 (Z01 ?_))
 refine Zk [1, 5, 6, 7, 8, 10, 11, 12] ?_
 refine Z03 (Z03 (Z00 (Zm ?_)))
 refine Zm ?_
 refine Zo ?_
 refine Z0q (s := 52) (v' := .bool false) rfl (by simp) ?_
 refine Zm ?_
 refine Zm ?_
 refine Zm ?_
 refine Zo ?_
 refine Z0q (s := 56) (v' := .bool false) rfl (by simp) ?_
 refine Z1a rfl rfl rfl rfl ?_
 refine Z02 (Z01 ?_)
 refine Zk [1, 5, 6, 7, 8, 10, 57] ?_
 refine Z1D rfl rfl ?_
 refine Z09 (Z01 ?_)
 refine Zk [1, 5, 6, 7, 8, 10] ?_
 refine Z03 (Z00 (Zm ?_))
 refine Z17 H6 rfl rfl underlying64 ti3 rfl (.cons rfl ZR (.cons rfl ZR (.cons rfl ZR (.cons rfl ZR (.cons rfl ZR .nil))))) rfl rfl rfl (fun b10_1 w7 H7 => ?_)
 have H8 := St.frontL (l := [_, _]) H7
 simp only [Zca, Zna] at H8
 have H9 := St.frontL (l := [_, _]) H8
 simp only [Zca, Zna] at H9
 refine Zc func26 (WarmC b L1 hL1 (.slice (some ⟨b10_1, 0, none⟩) 5 5) [-342, 308, 0, 22, -22] (fun x hx => by simp at hx; omega) (by simp) w7 (St.rows (τ := cacW b L1) H9) (Z2B (τ := cacW b L1) H9 (A := As.blk b10_1 3 [.int .i64 (-342), .int .i64 308, .int .i64 0, .int .i64 22, .int .i64 (-22)]) (.head _) (R := fun w1 => IV w1 (.slice (some ⟨b10_1, 0, none⟩) 5 5) (ints .i64 [-342, 308, 0, 22, -22])) (fun w1 h => blk_iv h))) ?_
 rintro _ w10 ⟨L2, rfl, hWa, hX⟩
 have H10 := hX _ _ _ _ H9
 simp only [cacW, List.cons_append, List.nil_append] at H10
 have hL2 : L2.length = 41 := by
  split at hWa
  ·rw [hWa.len]; exact hL1
  rw [hWa]; exact hL1
 refine Z02 (Z01 ?_)
 refine Zk [1, 5, 6, 7, 8, 10] ?_
 refine Z03 (Z00 (Zm ?_))
 refine Zm ?_
 refine Zm ?_
 have H11 := St.frontL (l := [_]) H10
 simp only [Zca, Zna] at H11
 have H12 := St.frontL (l := [_]) H11
 simp only [Zca, Zna] at H12
 refine Zc func16 (Z2v b L2 hL2 (9 + n % 2) A c t ZO w10 (St.rows (τ := cacW b L2) H12) ((Z4n (F := Z0B) (τ := cacW b L2) H12 (fun w1 h1 => IV.mono hv1 fun j hj => h1 j hj (fun e => e))))) ?_
 rintro _ w13 ⟨bb3, ro3, pl3, e3, L3, o3, rfl, hF3, hNe3, hCa3, hL3, hX⟩
 have H13 := hX _ _ _ _ H12
 simp only [cacW, List.cons_append, List.nil_append] at H13
 obtain ⟨rfl, rfl, _, rfl⟩ := hF1.unique hF3
 refine Zm ?_
 refine Zx (Zx (Zx (Zx (Zg ?_))))
 refine Zg ?_
 refine Zg ?_
 refine Zg (Z02 (Z01 ?_))
 refine Zk [1, 5, 6, 7, 8, 10, 13, 14, 16] ?_
 refine Z03 (Z03 (Z00 (Zm ?_)))
 refine Zm ?_
 refine Zo ?_
 refine Z0q (s := 72) (v' := .bool false) rfl (by simp) ?_
 refine Zm ?_
 refine Zm ?_
 refine Zm ?_
 refine Zo ?_
 refine Z0q (s := 76) (v' := .bool false) rfl (by simp) ?_
 refine Z1a rfl rfl rfl rfl ?_
 refine Zm ?_
 refine Zm ?_
 refine Zm ?_
 refine Zo ?_
 refine Z0q (s := 81) (v' := .bool false) rfl (by simp) ?_
 refine Z1a rfl rfl rfl rfl ?_
 refine Z02 (Z01 ?_)
 refine Zk [1, 5, 6, 7, 8, 10, 82] ?_
 refine Z1D rfl rfl ?_
 refine Z09 (Z01 ?_)
 refine Zk [1, 5, 6, 7, 8, 10] ?_
 refine Z03 (Z03 (Z00 (Zm ?_)))
 refine Z0J rfl rfl func18 rfl rfl (.cons rfl .nil) (Z32 _ _) ?_
 refine Zo ?_
 refine Zm ?_
 apply l_or 2 [1, 5, 6, 7] rfl rfl (.cons rfl (.cons rfl (.cons rfl (.cons rfl (.cons rfl .nil))))) rfl rfl (fun _ => rfl) rfl rfl rfl
 ·intro hg14_4
  refine Zm ?_
  refine Ze ?_
  refine Z02 ?_
  exact Z0n rfl (.cons rfl (ZF hg14_4) (.cons rfl rfl (.cons rfl rfl (.cons rfl rfl (.cons rfl rfl .nil)))))
 refine Z02 (Z01 ?_)
 refine Zk [1, 5, 6, 7, 89] ?_
 (first | refine Z08 rfl ?_ ?_ | refine Z05 rfl ?_ ?_) <;> intro hc3
 ·refine Z03 (Z00 (Zg (Z02 (Z01 ?_))))
  refine Zk [4] ?_
  refine Z0f ?_
  refine Z06 ?_
  refine Z0l results7 rfl ?_
  refine ⟨_, rfl, ?_⟩
  have H16 := St.del .head (St.del (.tail .head) (St.del (.tail (.tail .head)) H13))
  exact ⟨rfl, H16.grows⟩
 refine Z09 (Z01 ?_)
 refine Zk [1, 5, 6, 7] ?_
 refine Z03 (Z00 (Zm ?_))
 refine Z0N rfl rfl func27 rfl rfl (.cons rfl .nil) (scan8 _ t ZO w13 (H13.iarg hv1)) ?_
 rintro _ w17 ⟨ng, wd, man, x, more, p, es, rfl, hsc, hG⟩
 have H17 := hG _ _ _ _ H13
 simp only [Zca, Zna] at H17
 have hbd := hsc.any
 refine Zm ?_
 refine Zx (Zx (Zx ?_))
 refine Z0H H17 ta40 rfl rfl (fun b16_6 w18 H18 => ?_)
 refine Z0a H18 .head (.zero (.zero (.zero (.zero (.zero .nil))))) rfl tz40 rfl rfl ZC (fun w19 H19 => ?_)
 refine Zg ?_
 refine Zg (Z02 (Z01 ?_))
 refine Zk [5, 6, 7, 17] ?_
 refine Z03 (Z00 (Zm ?_))
 refine Zm ?_
 refine Z0e H19 mem0 rfl rfl underlying40 rfl tz40 rfl (.take (.take (.take (.take (.take .nil))))) ?_
 have H20 := St.frontL (l := [_, _]) H19
 simp only [Zca, Zna] at H20
 have H21 := St.frontL (l := [_, _]) H20
 simp only [Zca, Zna] at H21
 refine Zc func20 (TableP b L3 hL3 (9 + n % 2) wd man x ng more ⟨hbd.1, hbd.2.1⟩ ZO w19 (St.rows (τ := cacW b L3) H21)) ?_
 rintro _ w22 ⟨b2, ok, e2, L4, rfl, hT, hC, hX⟩
 have H22 := hX _ _ _ _ H21
 simp only [cacW, List.cons_append, List.nil_append] at H22
 refine Zm ?_
 refine Zx (Zx (Zx (Zg ?_)))
 refine Zg ?_
 refine Zg (Z02 (Z01 ?_))
 refine Zk [7, 20, 21] ?_
 refine Z03 (Z00 (Zm ?_))
 refine Z0q (s := 104) (v' := .bool (decide (ok = true))) rfl (by cases ok <;> rfl) ?_
 first | refine Z1c rfl rfl rfl ?_ | refine Z1N rfl rfl rfl ?_
 refine Zm ?_
 skip
 apply l_or 3 [] rfl rfl (.cons rfl .nil) rfl rfl (fun _ => rfl) rfl rfl rfl
 ·intro hg18_3
  refine Zm ?_
  refine Zm ?_
  refine Ze ?_
  refine Z02 ?_
  exact Z0n rfl (.cons rfl (ZF hg18_3) .nil)
 refine Zg (Z02 (Z01 ?_))
 refine Zk [4] ?_
 refine Z0f ?_
 refine Z0l results7 rfl ?_
 refine ⟨_, rfl, ?_⟩
 have H26 := St.del .head (St.del (.tail .head) (St.del (.tail (.tail .head)) (St.del (.tail (.tail (.tail .head))) H22)))
 refine ⟨congrArg Value.bool (decide_eq_true ?_), H26.grows⟩
 by_cases ho : ok = true
 ·exact .inr (tab_agree hF1 (Classical.not_not.1 fun h => hc3 (.inl h)) (fun h => hc3 (.inr h)) hsc hT ho)
 exact .inl ho
def Sgn (z : L8) (neg : Bool) : Prop := (z = [] ∧ neg = false) ∨ (z = [43] ∧ neg = false) ∨ (z = [45] ∧ neg = true)
theorem dig_nosgn : ∀ c : UInt8, isd c = true → sgn c = false := all8 (by decide +kernel)
theorem run_app {W R : L8} (hW : ∀ c ∈ W, isD c) (hR : R = [] ∨ isd (R.getD 0 0) = false) : run (W ++ R) = W.length := by
 refine Z4j _ _ (fun j hj => ?_) (by simp) (fun h => ?_)
 ·have : (W ++ R).getD j 0 = W.getD j 0 := by simp [List.getD, List.getElem?_append_left hj]
  rw [this]; exact hW _ (Z2K hj)
 have e : (W ++ R).getD W.length 0 = R.getD 0 0 := by
  unfold List.getD
  rw [List.getElem?_append_right (Nat.le_refl _), Nat.sub_self]
 rw [e, Z2E]
 rcases hR with rfl | hR
 ·simp at h
 rw [hR]; decide
theorem sg_app {z r : L8} {neg : Bool} (hz : Sgn z neg) (hr : r = [] ∨ sgn (r.getD 0 0) = false) : sg (z ++ r) 0 = z.length ∧ ngb (z ++ r) = neg := by
 rcases hz with ⟨rfl, rfl⟩ | ⟨rfl, rfl⟩ | ⟨rfl, rfl⟩
 ·have h1 : ¬ (0 < r.length ∧ sgP r 0) := fun h => by
   rcases hr with rfl | hr
   ·simp at h
   have := (Z4f r 0).1 h.2; rw [hr] at this; cases this
  refine ⟨Z51 h1, ?_⟩
  unfold ngb
  rw [decide_eq_false_iff_not]
  intro e
  rcases hr with rfl | hr
  ·simp at e
  have e2 : r.getD 0 0 = 45 := (Z1R (d := 45)).1 e
  simp only [List.nil_append] at e
  rw [e2] at hr
  cases hr
 ·refine ⟨Z2F (by simp) (.inl rfl), ?_⟩
  show decide (((43 : UInt8).toNat : Int) = 45) = false
  decide
 refine ⟨Z2F (by simp) (.inr rfl), ?_⟩
 show decide (((45 : UInt8).toNat : Int) = 45) = true
 decide
structure Form (s : L8) (neg : Bool) (W F : L8) (x : Int) : Prop where
 ex : ∃ z pt ex : L8, Sgn z neg ∧ (∀ c ∈ W, isD c) ∧ (∀ c ∈ F, isD c) ∧ (W ≠ [] ∨ F ≠ []) ∧ ((pt = [] ∧ F = []) ∨ pt = [46]) ∧
  ((ex = [] ∧ x = 0) ∨ ∃ (c : UInt8) (zE E : L8) (en : Bool), ex = c :: (zE ++ E) ∧ (c = 101 ∨ c = 69) ∧ Sgn zE en ∧ (∀ d ∈ E, isD d) ∧ E ≠ [] ∧ x = expS en E) ∧ s = z ++ (W ++ (pt ++ (F ++ ex)))
theorem ne_getD {W R : L8} (h : W ≠ []) : (W ++ R).getD 0 0 = W.getD 0 0 := by
 cases W with
 | nil => exact absurd rfl h
 | cons c W => rfl
theorem Form.rc {s : L8} {neg : Bool} {W F : L8} {x : Int} (h : Form s neg W F x) : ∃ en E, RC s neg 0 W F en E true ∧ x = expS en E := by
 obtain ⟨z, pt, ex, hz, hW, hF, hne, hpt, hex, rfl⟩ := h.ex
 have hex0 : ex = [] ∨ (isd (ex.getD 0 0) = false ∧ ¬ ex.getD 0 0 = 46) := by
  rcases hex with ⟨rfl, _⟩ | ⟨c, zE, E, en, rfl, hc, _⟩
  ·exact .inl rfl
  right
  rcases hc with rfl | rfl
  ·exact ⟨show isd (101 : UInt8) = false from by decide, show ¬ (101 : UInt8) = 46 from by decide⟩
  exact ⟨show isd (69 : UInt8) = false from by decide, show ¬ (69 : UInt8) = 46 from by decide⟩
 -- what follows the digits ahead
 have hR0 : pt ++ (F ++ ex) = [] ∨ isd ((pt ++ (F ++ ex)).getD 0 0) = false := by
  rcases hpt with ⟨rfl, rfl⟩ | rfl
  ·rcases hex0 with h | h
   ·exact .inl (by simp [h])
   exact .inr (by simpa using h.1)
  exact .inr (show isd (46 : UInt8) = false from by decide)
 have hrunW := run_app hW hR0
 -- the first byte behind the sign
 have hb0 : isd ((W ++ (pt ++ (F ++ ex))).getD 0 0) = true ∨ (W ++ (pt ++ (F ++ ex))).getD 0 0 = 46 := by
  by_cases hw : W = []
  ·subst hw
   rcases hpt with ⟨_, hf⟩ | rfl
   ·rcases hne with h | h
    ·exact absurd rfl h
    exact absurd hf h
   exact .inr rfl
  rw [ne_getD hw]
  exact .inl ((Z2E _).1 (hW _ (Z2K (List.length_pos_iff.2 hw))))
 have hns : sgn ((W ++ (pt ++ (F ++ ex))).getD 0 0) = false := by
  rcases hb0 with h | h
  ·exact dig_nosgn _ h
  rw [h]; decide
 obtain ⟨hsg, hng⟩ := sg_app hz (.inr hns)
 have eb : W ++ (pt ++ (F ++ ex)) = (z ++ (W ++ (pt ++ (F ++ ex)))).drop (sg (z ++ (W ++ (pt ++ (F ++ ex)))) 0) := by rw [hsg, List.drop_left]
 have hword : ¬ Z3E (W ++ (pt ++ (F ++ ex))) := fun h => by
  rw [word_iff] at h
  have := Z4Y (b := W ++ (pt ++ (F ++ ex))) (.inr hb0)
  omega
 have htk : (W ++ (pt ++ (F ++ ex))).take (run (W ++ (pt ++ (F ++ ex)))) = W := by rw [hrunW, List.take_left]
 have hdr : (W ++ (pt ++ (F ++ ex))).drop (run (W ++ (pt ++ (F ++ ex)))) = pt ++ (F ++ ex) := by rw [hrunW, List.drop_left]
 have hfs : Fs ((W ++ (pt ++ (F ++ ex))).drop (run (W ++ (pt ++ (F ++ ex))))) F ex := by
  rw [hdr]
  rcases hpt with ⟨rfl, rfl⟩ | rfl
  ·simp only [List.nil_append]
   exact .no (hex0.imp id fun h => h.2)
  have h1 := Fs.yes (R := [46] ++ (F ++ ex)) (by simp) rfl
  have h2 : ([46] ++ (F ++ ex)).drop 1 = F ++ ex := rfl
  have hrunF := run_app hF (hex0.imp id fun h => h.1)
  rw [h2, hrunF, List.take_left, List.drop_left] at h1
  exact h1
 have hzz : ¬ ((W ++ (pt ++ (F ++ ex))).take (run (W ++ (pt ++ (F ++ ex)))) = [] ∧ F = []) := by
  rw [htk]
  rintro ⟨h1, h2⟩
  rcases hne with h | h
  ·exact h h1
  exact h h2
 rcases hex with ⟨rfl, rfl⟩ | ⟨c, zE, E, en, rfl, hc, hzE, hE, hE0, rfl⟩
 ·refine ⟨false, [], ?_, rfl⟩
  have := RC.plain eb hword hfs hzz rfl
  rw [hng, htk] at this
  exact this
 have hEs : E = [] ∨ sgn (E.getD 0 0) = false := .inr (dig_nosgn _ ((Z2E _).1 (hE _ (Z2K (List.length_pos_iff.2 hE0)))))
 obtain ⟨hs1, hn1⟩ := sg_app hzE hEs
 have hd1 : (c :: (zE ++ E)).drop 1 = zE ++ E := rfl
 have hrunE : run E = E.length := by have := run_app hE (R := []) (.inl rfl); rwa [List.append_nil] at this
 have := RC.exp (E := E) eb hword hfs hzz (by simp) hc (by rw [hd1, hs1, List.drop_left])
 rw [hng, htk, hd1, hn1, hrunE, List.take_length, List.drop_length, decide_eq_true ⟨hE0, rfl⟩] at this
 exact ⟨en, E, this, rfl⟩
theorem Form.read {s : L8} {neg : Bool} {W F : L8} {x : Int} (h : Form s neg W F x) (hl : s.length ≤ 1024) : Z1S s neg 0 W F x 0 0 := by
 obtain ⟨en, E, hc, rfl⟩ := h.rc
 obtain ⟨ng', hr, hng⟩ := hc.read hl
 have : neg = ng' := by rw [hng]; cases ng' <;> rfl
 rw [this]
 exact hr
def numG (neg : Bool) (L : L8) (fl : Nat) (x : Int) : Bool × Int × Int × Int × Bool × Int × Int :=
 if L = [] then (neg, 0, 0, 0, false, 0, 0) else (neg, 0, pv (L.take (L.length - (L.length - 19))), x - fl + ((L.length - 19 : Nat) : Int), (L.drop (L.length - (L.length - 19))).any (fun c => !decide (c = 48)), 0, 0)
theorem Z1h.form {t : L8} {ng more neg : Bool} {wd man x p e x0 : Int} {W F : L8} (h : Z1h t ng wd man x more p e) (hf : Form t neg W F x0) (hl : t.length ≤ 1024) : (ng, wd, man, x, more, p, e) = numG neg (Z0P (W ++ F)) F.length x0 := by
 have hr := hf.read hl
 unfold numG
 cases h with
 | err hr2 he => obtain ⟨_, _, _, _, _, _, h⟩ := hr2.unique hr; exact absurd h he
 | nil hr2 hn =>
  obtain ⟨rfl, rfl, rfl, rfl, rfl, _⟩ := hr2.unique hr
  rcases hn with h | h
  ·exact absurd rfl h
  rw [if_pos h]
  congr 1
  simp
 | num hr2 hne hn =>
  obtain ⟨rfl, _, rfl, rfl, rfl, _⟩ := hr2.unique hr
  rw [if_neg hne, ← hn]
theorem expo_pv : ∀ (n : Nat) (l : L8), l.length = n → (∀ x ∈ l, isD x) → expo l = min (pv l) 99999
 | 0, l, h, _ => by
  obtain rfl := List.eq_nil_of_length_eq_zero h
  decide
 | n + 1, l, h, hd => by
  have hne : l ≠ [] := by intro e; subst e; simp at h
  have e := List.dropLast_concat_getLast hne
  have hd' : ∀ x ∈ l.dropLast, isD x := fun x hx => hd x ((List.dropLast_sublist l).subset hx)
  have ih := expo_pv n l.dropLast (by simp [h]) hd'
  have hb := (Z1i n l.dropLast (by simp [h]) hd').1
  have hl := (hd _ (List.getLast_mem hne)).le
  rw [← e, Z2j, Z2X, ih]
  omega
theorem dig_isD {r : Int} (h : 0 ≤ r ∧ r ≤ 9) : isD (dig r) := by
 have := Z2z h
 unfold isD
 omega
theorem dt0_fact : ∀ (m n : Nat), n ≤ m → (∀ x ∈ dt0 n, isD x) ∧ pv (dt0 n) = n ∧ (dt0 n).length ≤ n
 | m, 0, _ => by rw [Z1X]; simp [pv]
 | 0, n + 1, h => by omega
 | m + 1, n + 1, h => by
  have ih := dt0_fact m ((n + 1) / 10) ZO
  rw [dt0, dif_neg ZO]
  have hd := Z2z (r := (((n + 1) % 10 : Nat) : Int)) ZO
  refine ⟨fun x hx => ?_, ?_, ?_⟩
  ·rcases List.mem_append.1 hx with h1 | h1
   ·exact ih.1 x h1
   rw [List.mem_singleton.1 h1]; exact dig_isD ZO
  ·rw [Z2X, ih.2.1, hd]; omega
  rw [List.length_append]; have := ih.2.2; simp only [List.length_singleton]; omega
theorem dtx_fact {n : Int} (h : 0 ≤ n) : (∀ x ∈ dtx n, isD x) ∧ pv (dtx n) = n ∧ dtx n ≠ [] ∧ (dtx n).length ≤ n.toNat + 1 := by
 unfold dtx
 split
 ·rename_i e
  subst e
  exact ⟨fun x hx => by rw [List.mem_singleton.1 hx]; decide, by decide, by simp, by simp⟩
 have := dt0_fact n.toNat n.toNat (Nat.le_refl _)
 exact ⟨this.1, by rw [this.2.1]; omega, dt0_ne ZO, ZO⟩
theorem dg8 (c : UInt8) : 48 + (c.toNat : Int) % 10 = ((48 + c % 10 : UInt8).toNat : Int) := by
 have key : ∀ c : UInt8, 48 + c.toNat % 10 = (48 + c % 10 : UInt8).toNat := all8 (by decide +kernel)
 have := key c
 omega
theorem dgs_snoc {l : L8} {k : Nat} (h : k < l.length) : ((l.take k).map fun c => 48 + c % 10) ++ [48 + l.getD k 0 % 10] = (l.take (k + 1)).map fun c => 48 + c % 10 := by
 have e : l.getD k 0 = l[k] := by simp [List.getD, h]
 rw [List.take_succ_eq_append_getElem h, e, List.map_append]
 rfl
theorem dt0_lt : ∀ (k n : Nat), n < 10 ^ k → (dt0 n).length ≤ k
 | 0, n, h => by
  obtain rfl : n = 0 := by simpa using h
  rw [Z1X]; simp
 | k + 1, n, h => by
  by_cases h0 : n = 0
  ·rw [h0, Z1X]; simp
  rw [dt0, dif_neg h0, List.length_append]
  have := dt0_lt k (n / 10) (by rw [Nat.pow_succ] at h; omega)
  simp only [List.length_singleton]
  omega
theorem dtx_lt {n : Int} (h : 0 ≤ n ∧ n < 100000) : (dtx n).length ≤ 5 := by
 unfold dtx
 split
 ·simp
 exact dt0_lt 5 n.toNat ZO
theorem ExR.form {t : L8} {neg : Bool} {n x e x0 : Int} {W F : L8} (h : ExR t n x e) (hf : Form t neg W F x0) (hl : t.length ≤ 1024) (h0 : Z0P (W ++ F) ≠ []) : n = pv (Z0P (W ++ F)) ∧ x = x0 - F.length ∧ e = 0 := by
 have := ExR.num (hf.read hl) h0
 exact h.unique this
def vlD (l : L8) : L8 := (l.take 60).map fun c => 48 + c % 10
def vlW (l : L8) : L8 := if vlD l = [] then [48] else vlD l
def vlE (x : Int) : L8 := if x < 0 then [45] ++ dtx (0 - x) else dtx x
def vlT (l : L8) (x : Int) : L8 := vlW l ++ [101] ++ vlE x
theorem vlD_len (l : L8) : (vlD l).length ≤ 60 := by unfold vlD; rw [List.length_map, List.length_take]; omega
theorem Z3h (l : L8) : 1 ≤ (vlW l).length ∧ (vlW l).length ≤ 60 := by
 have := vlD_len l
 unfold vlW
 split
 ·simp
 rename_i h
 have := List.length_pos_iff.2 h
 omega
theorem Z4p (l : L8) : ∀ c ∈ vlW l, isD c := fun c hc => by
 unfold vlW at hc
 split at hc
 ·rw [List.mem_singleton.1 hc]; decide
 obtain ⟨x, _, rfl⟩ := List.mem_map.1 hc
 have := dg8 x
 unfold isD
 omega
theorem bys_snoc (l : L8) (c : UInt8) : bys l ++ [.int .u8 (c.toNat : Int)] = bys (l ++ [c]) := by simp [bys]
theorem Z1e (l m : L8) : bys l ++ bys m = bys (l ++ m) := by simp [bys]
theorem vlE_len {x : Int} (h : -400 < x ∧ x < 400) : (vlE x).length ≤ 6 := by
 unfold vlE
 split
 ·have := dtx_lt (n := 0 - x) ZO
  rw [List.length_append, List.length_singleton]
  omega
 have := dtx_lt (n := x) ZO
 omega
theorem tmod4 (x : Int) : -400 < x.tmod 400 ∧ x.tmod 400 < 400 := tmod_bd (by omega)
theorem vl_form {W F pt : L8} {x : Int} (hx : -400 < x ∧ x < 400) (hW : ∀ c ∈ W, isD c) (hF : ∀ c ∈ F, isD c) (hne : W ≠ []) (hpt : (pt = [] ∧ F = []) ∨ pt = [46]) : Form (W ++ (pt ++ (F ++ ([101] ++ vlE x)))) false W F x := by
 refine ⟨⟨[], pt, [101] ++ vlE x, .inl ⟨rfl, rfl⟩, hW, hF, .inl hne, hpt, .inr ?_, by simp⟩⟩
 unfold vlE
 by_cases h : x < 0
 ·have hf := dtx_fact (n := 0 - x) ZO
  rw [if_pos h]
  refine ⟨101, [45], _, true, rfl, .inl rfl, .inr (.inr ⟨rfl, rfl⟩), hf.1, hf.2.2.1, ?_⟩
  unfold expS
  rw [if_pos rfl, expo_pv _ _ rfl hf.1, hf.2.1]
  omega
 have hf := dtx_fact (n := x) ZO
 rw [if_neg h]
 refine ⟨101, [], _, false, rfl, .inl rfl, .inl ⟨rfl, rfl⟩, hf.1, hf.2.2.1, ?_⟩
 unfold expS
 rw [if_neg (by decide), expo_pv _ _ rfl hf.1, hf.2.1]
 omega
theorem vlT_form (l : L8) {x : Int} (hx : -400 < x ∧ x < 400) : Form (vlT l x) false (vlW l) [] x := by
 have h := vl_form (F := []) (pt := []) hx (Z4p l) (fun c hc => by cases hc) (List.length_pos_iff.1 (Z3h l).1) (.inl ⟨rfl, rfl⟩)
 unfold vlT
 simpa only [List.nil_append, List.append_assoc] using h
theorem vlT_len (l : L8) {x : Int} (hx : -400 < x ∧ x < 400) : (vlT l x).length ≤ 67 := by
 have h1 := Z3h l
 have h2 := vlE_len hx
 unfold vlT
 simp only [List.length_append, List.length_singleton]
 omega
theorem Z4q : ∀ l : L8, pv (Z0P l) = pv l
 | [] => rfl
 | c :: l => by
  simp only [Z0P]
  split
  ·rename_i h
   rw [Z4q l]
   have h2 := Z1r [c] l.length l rfl
   rw [show c = 48 by simpa using h] at h2 ⊢
   rw [show pv [48] = 0 from by decide, Int.zero_mul, Int.zero_add] at h2
   exact h2.symm
  rfl
theorem flt_zero (d : Kd) (x : Int) : fltT d 0 x (0, true, 0) := by
 have hI := d.I_lt
 have hp := Ma.pow_pos (show (0 : Int) < 10 by omega) (-x).toNat
 have h1 : fv d.H 0 = 0 := Z3o ZO
 have h3 := fv_lt (H := d.H) (b := 0) ZO ZO
 have h5 : 0 < fv d.H (0 + 1) * 10 ^ (-x).toNat := Int.mul_pos ZO hp
 have h := RndR.of (H := d.H) (G := d.I - 1) (N := 0 * 10 ^ x.toNat * 2 ^ d.l) (D := 10 ^ (-x).toNat) (b0 := 0) ZO hp ZO hI.2.1 ZO (by rw [h1]; simp) (by rw [Int.zero_mul, Int.zero_mul]; exact h5)
 have hu : ¬ upR d.H (0 * 10 ^ x.toNat * 2 ^ d.l) (10 ^ (-x).toNat) 0 := by
  unfold upR
  rw [h1, Int.zero_mul, Int.zero_mul, Int.zero_add]
  omega
 rw [if_neg hu, if_pos ZO, h1, decide_eq_true (show (0 : Int) * 10 ^ (-x).toNat = 0 * 10 ^ x.toNat * 2 ^ d.l by simp)] at h
 exact h
theorem fl_form {T : L8} {k bb road place e x : Int} {d : Kd} {W F : L8} (h : FlR T k bb road place e) (hk : kd k = some d) (hf : Form T false W F x) (hl : T.length ≤ 1024) :
  ∃ tt, fltT d (pv (W ++ F)) (x - F.length) tt ∧ bb = (if tt.2.2 = 0 then tt.1 else 0) ∧ e = (if tt.2.2 = 0 then 0 else 90) := by
 have hr := hf.read hl
 by_cases h0 : Z0P (W ++ F) = []
 ·have hs0 := Z1h.nil hr (.inr h0)
  have hp : pv (W ++ F) = 0 := by rw [← Z4q, h0]; rfl
  rw [hp]
  cases h with
  | kind h2 => rw [hk] at h2; cases h2
  | err _ hs he => obtain ⟨_, _, _, _, _, _, h3⟩ := hs.unique hs0; exact absurd h3 he
  | word h2 hs _ =>
   rw [hk] at h2; cases h2
   obtain ⟨rfl, rfl, _⟩ := hs.unique hs0
   exact ⟨_, flt_zero d _, rfl, rfl⟩
  | num _ hs hw _ _ => obtain ⟨_, rfl, rfl, _⟩ := hs.unique hs0; exact absurd (.inr rfl) hw
 have hs0 := Z1h.num hr h0 rfl
 have hdg := hr.facts.1
 have hne : 0 < (Z0P (W ++ F)).length := List.length_pos_iff.2 h0
 have hh := skip0_head (W ++ F) h0
 have hlead := Z4z (t := (Z0P (W ++ F)).take ((Z0P (W ++ F)).length - ((Z0P (W ++ F)).length - 19))) (fun c hc => hdg c (Z2k (List.mem_of_mem_take hc))) (by rw [List.length_take]; omega) (fun e => hh ((Z1R (d := 48)).1 (by rw [← take_hd (Z0P (W ++ F)) (show 0 < (Z0P (W ++ F)).length - ((Z0P (W ++ F)).length - 19) by omega)]; exact e)))
 have hpos := Ma.pow_pos (show (0 : Int) < 10 by omega) (((Z0P (W ++ F)).take ((Z0P (W ++ F)).length - ((Z0P (W ++ F)).length - 19))).length - 1)
 cases h with
 | kind h2 => rw [hk] at h2; cases h2
 | err _ hs he => obtain ⟨_, _, _, _, _, _, h3⟩ := hs.unique hs0; exact absurd h3 he
 | word _ hs hw =>
  obtain ⟨_, rfl, rfl, _⟩ := hs.unique hs0
  unfold wdP at hw
  omega
 | num h2 hs hw hx ht =>
  rw [hk] at h2; cases h2
  obtain ⟨rfl, _⟩ := hs.unique hs0
  obtain ⟨rfl, rfl, _⟩ := hx.unique (ExR.num hr h0)
  rw [Z4q] at ht
  exact ⟨_, ht, rfl, rfl⟩
theorem flt_scale {d : Kd} {m n x xx : Int} {q : Nat} {tt : Int × Bool × Int} (hx : x = xx + q) (hn : n = m * 10 ^ q) (ht : fltT d m x tt) : fltT d n xx tt := by
 unfold fltT at ht ⊢
 refine ht.frac (Ma.pow_pos ZO _) (Ma.pow_pos ZO _) ?_
 have hex : (10 : Int) ^ x.toNat * 10 ^ (-xx).toNat = 10 ^ q * 10 ^ xx.toNat * 10 ^ (-x).toNat := by
  rw [← Int.pow_add, ← Int.pow_add, ← Int.pow_add]
  congr 1
  omega
 rw [hn]
 generalize (10 : Int) ^ x.toNat = b at *
 generalize (10 : Int) ^ (-xx).toNat = c at *
 generalize (10 : Int) ^ xx.toNat = e' at *
 generalize (10 : Int) ^ (-x).toNat = a at *
 generalize (10 : Int) ^ q = qq at *
 generalize (2 : Int) ^ d.l = l at *
 have z1 : m * b * l * c = m * (b * c) * l := by simp only [Int.mul_assoc, Int.mul_left_comm, Int.mul_comm]
 rw [z1, hex]
 simp only [Int.mul_assoc, Int.mul_left_comm, Int.mul_comm]
theorem flt_mono {d : Kd} {n n' x : Int} {t t' : Int × Bool × Int} (h : n ≤ n') (ht : fltT d n x t) (ht' : fltT d n' x t') : vlR (d.I - 1) t ≤ vlR (d.I - 1) t' := by
 have hI := d.I_lt
 have p := Ma.pow_pos (show (0 : Int) < 10 by omega) (-x).toNat
 refine RndR.mono ZO p p ZO hI.2.1 ?_ ht ht'
 exact Int.mul_le_mul_of_nonneg_right (Int.mul_le_mul_of_nonneg_right (Int.mul_le_mul_of_nonneg_right h (Int.le_of_lt (Ma.pow_pos ZO _))) (Int.le_of_lt (Ma.pow_pos ZO _))) (Int.le_of_lt p)
theorem valueL9 (u : Value) (l : L8) (x : Int) (hx : -400 < x ∧ x < 400) (w : World) (hv : IB w u l) :
  Z0g P 31 [u, .int .i64 x] w fun r w' => ∃ v, r = v ∧ Grow w w' [As.rb 5 v (vlT l x)] := by
 refine Z0o func31 rfl ntmps31 rfl ?_
 have H0 := St.start w
 have hwl := Z3h l
 have hdl := vlD_len l
 refine Z03 (Z00 (Zg (Z02 (Z01 ?_))))
 refine Zk [0, 1] ?_
 refine Z03 (Z00 (Zg (Z02 (Z01 (Z03 (Z03 (Z00 ?_)))))))
 have H1 := H0.nil 5
 refine Zg (Z02 (Z01 (Z0c ?_)))
 refine Z0v (ι := Nat × Value) (fun (z0 : Nat × Value) => match z0 with | ⟨k, vs⟩ => l.length - k) (fun (z0 : Nat × Value) (w' : World) => match z0 with | ⟨k, vs⟩ => St w w.heap.size Z0B ([As.rb 5 vs ((l.take k).map fun c => 48 + c % 10)]) w' ∧ k ≤ l.length ∧ k ≤ 60) (fun (z0 : Nat × Value) => match z0 with | ⟨k, vs⟩ => [(5, vs), (6, .int .i64 (k : Int))]) [0, 1] (0, .slice none 0 0) ?_ (.cons rfl (.cons rfl .nil)) ?_ ?_
 ·exact ⟨H1, ZO, ZO⟩
 ·exact (.cons rfl ZN (.cons rfl ZN .nil))
 rintro ⟨k, vs⟩ w2 ⟨H2, hk, hk6⟩
 show RunC P _ _ _ (_ :: _) _
 refine Z03 (Z03 (Z00 (Zm ?_)))
 refine Zm ?_
 refine Z0I rfl rfl underlying26 rfl (by first | exact H2.io mem0 | exact H2.iarg hv | assumption) ?_
 refine Zl ?_
 refine Zm ?_
 apply Z13 2 [0, 1, 5, 6] rfl rfl (.cons rfl (.cons rfl (.cons rfl (.cons rfl (.cons rfl .nil))))) rfl rfl (fun _ => rfl) rfl rfl rfl
 ·intro hg3_5
  refine Zm ?_
  refine Zl ?_
  refine Z02 ?_
  exact Z0n rfl (.cons rfl (ZT hg3_5) (.cons rfl rfl (.cons rfl rfl (.cons rfl rfl (.cons rfl rfl .nil)))))
 refine Z02 (Z01 ?_)
 refine Zk [0, 1, 5, 6, 14] ?_
 (first | refine Z08 rfl ?_ ?_ | refine Z05 rfl ?_ ?_) <;> intro hc0
 ·refine Z09 (Z01 ?_)
  refine Zk [0, 1, 5, 6] ?_
  refine Z03 (Z0c (Z00 (Zm ?_)))
  refine Zm ?_
  refine Zm ?_
  refine Z0V (j := k) rfl rfl rfl rfl underlying26 tz5 underlying5 rfl rfl (by first | exact H2.io mem0 | exact H2.iarg hv | assumption) rfl ZO ZI (fun hb5_3 => ?_)
  refine Z2x rfl rfl rfl rfl ZO (Z2P ZO) ?_
  refine Z0t rfl rfl rfl rfl (w_u8 ZO) ?_
  refine Z0q (s := 23) (v' := .int .u8 ((48 + l.getD k 0 % 10 : UInt8).toNat : Int)) rfl (by rw [← dg8]) ?_
  refine Z17 H2 rfl rfl underlying26 ti5 rfl (.cons rfl ZR .nil) rfl rfl rfl (fun b5_7 w3 H3 => ?_)
  refine Z2d H3 rfl rfl underlying26 ti5 rfl rfl rfl rfl (by first | (simp [Value.oneCell']; done) | (intro u hu; rw [List.mem_singleton.1 hu]; assumption)) (by first | (simp; done) | (simp; omega)) (by first | (simp; done) | (simp; omega)) (fun v5_8 w4 H4 => ?_)
  rw [bys_snoc, dgs_snoc ZO] at H4
  refine Zg (Z02 ?_)
  refine Z0z ?_
  refine Z01 ?_
  refine Zk [0, 1, 5, 6] ?_
  refine Z00 (Zm ?_)
  refine Z0t rfl rfl rfl rfl (Z0h ZO) ?_
  refine Zg (Z02 ?_)
  refine Z0j (i := (k, vs)) (k + 1, v5_8) ?_ ?_ (.cons rfl (.cons rfl .nil)) ?_
  ·first | omega | (simp; omega)
  ·exact ⟨H4, ZO, ZO⟩
  exact (.cons rfl ZN (.cons rfl ZN .nil))
 refine Z0y ?_
 refine Z04 ?_
 refine Z04 ?_
 refine Z0d ?_
 refine Z01 ?_
 refine Zk [1, 5] ?_
 refine Z0R (ι := Value) (fun (v8 : Value) (w' : World) => St w w.heap.size Z0B ([As.rb 5 v8 (vlW l)]) w' ∧ 1 = 1) (fun (v8 : Value) => [(5, v8)]) [1] (.cons rfl .nil) ?_ ?_
 ·refine Z03 (Z00 ?_)
  have ht : l.take k = l.take 60 := by
   by_cases h : k = 60
   ·rw [h]
   rw [List.take_of_length_le ZO, List.take_of_length_le ZO]
  have hvd : ((l.take k).map fun c => 48 + c % 10) = vlD l := by unfold vlD; rw [ht]
  rw [hvd] at H2
  refine Zm ?_
  refine Z0I rfl rfl underlying26 rfl (by first | exact H2.io mem0 | exact H2.iarg hv | assumption) ?_
  refine Ze ?_
  refine Z02 (Z01 ?_)
  refine Zk [1, 5, 28] ?_
  (first | refine Z08 rfl ?_ ?_ | refine Z05 rfl ?_ ?_) <;> intro hc1
  ·have h0 : vlD l = [] := List.eq_nil_of_length_eq_zero ZO
   refine Z00 (Zm ?_)
   refine Z17 H2 rfl rfl underlying26 ti5 rfl (.cons rfl ZR .nil) rfl rfl rfl (fun b7_1 w5 H5 => ?_)
   refine Z2d H5 rfl rfl underlying26 ti5 rfl rfl rfl rfl (by first | (simp [Value.oneCell']; done) | (intro u hu; rw [List.mem_singleton.1 hu]; assumption)) (by first | (simp; done) | (simp; omega)) (by first | (simp; done) | (simp; omega)) (fun v7_2 w6 H6 => ?_)
   refine Zg (Z02 ?_)
   refine Z0s (v7_2) ?_ (.cons rfl .nil) ?_
   ·refine ⟨?_, rfl⟩
    rw [show vlW l = [48] from if_pos h0]
    rw [h0] at H6
    exact H6
   exact (.cons rfl ZN .nil)
  have h0 : ¬ vlD l = [] := fun h => by rw [h] at hc1; exact hc1 rfl
  refine Z09 ?_
  refine Z0s (vs) ?_ (.cons rfl .nil) ?_
  ·refine ⟨?_, rfl⟩
   rw [show vlW l = vlD l from if_neg h0]
   exact H2
  exact (.cons rfl ZN .nil)
 rintro v8 w7 ⟨H7, h11⟩
 show RunC P _ _ _ (_ :: _) _
 refine Z03 (Z00 (Zm ?_))
 refine Z17 H7 rfl rfl underlying26 ti5 rfl (.cons rfl ZR .nil) rfl rfl rfl (fun b8_1 w8 H8 => ?_)
 refine Z2d H8 rfl rfl underlying26 ti5 rfl rfl rfl rfl (by first | (simp [Value.oneCell']; done) | (intro u hu; rw [List.mem_singleton.1 hu]; assumption)) (by first | (simp; done) | (simp; omega)) (by first | (simp; done) | (simp; omega)) (fun v8_2 w9 H9 => ?_)
 rw [show bys (vlW l) ++ [.int .u8 101] = bys (vlW l ++ [101]) from bys_snoc _ 101] at H9
 refine Zg (Z02 (Z01 ?_))
 refine Zk [1, 5] ?_
 refine Z0R (ι := Value × Int × L8) (fun (z0 : Value × Int × L8) (w' : World) => match z0 with | ⟨v12, y, z⟩ => St w w.heap.size Z0B ([As.rb 5 v12 (vlW l ++ [101] ++ z)]) w' ∧ z ++ dtx y = vlE x ∧ 0 ≤ y ∧ y < 400 ∧ z.length ≤ 1) (fun (z0 : Value × Int × L8) => match z0 with | ⟨v12, y, z⟩ => [(1, .int .i64 y), (5, v12)]) [] .nil ?_ ?_
 ·refine Z03 (Z00 (Zm ?_))
  refine Zl ?_
  refine Z02 (Z01 ?_)
  refine Zk [1, 5, 36] ?_
  (first | refine Z08 rfl ?_ ?_ | refine Z05 rfl ?_ ?_) <;> intro hc2
  ·refine Z03 (Z00 (Zm ?_))
   refine Z17 H9 rfl rfl underlying26 ti5 rfl (.cons rfl ZR .nil) rfl rfl rfl (fun b10_1 w10 H10 => ?_)
   refine Z2d H10 rfl rfl underlying26 ti5 rfl rfl rfl rfl (by first | (simp [Value.oneCell']; done) | (intro u hu; rw [List.mem_singleton.1 hu]; assumption)) (by first | (simp; done) | (simp; omega)) (by first | (simp; done) | (simp; omega)) (fun v10_2 w11 H11 => ?_)
   rw [show bys (vlW l ++ [101]) ++ [.int .u8 45] = bys (vlW l ++ [101] ++ [45]) from bys_snoc _ 45] at H11
   refine Zg (Z02 (Z01 ?_))
   refine Zk [1, 5] ?_
   refine Z00 (Zm ?_)
   refine Z2u rfl rfl rfl (Z0h ZO) ?_
   refine Zg (Z02 ?_)
   refine Z0s (v10_2, 0 - x, [45]) ?_ .nil ?_
   ·exact ⟨H11, by unfold vlE; rw [if_pos ZA], ZO, ZO, by simp⟩
   exact (.cons rfl ZN (.cons rfl ZN .nil))
  refine Z09 ?_
  refine Z0s (v8_2, x, []) ?_ .nil ?_
  ·refine ⟨?_, by unfold vlE; rw [if_neg ZA]; rfl, ZO, ZO, by simp⟩
   rw [List.append_nil]
   exact H9
  exact (.cons rfl ZN (.cons rfl ZN .nil))
 rintro ⟨v12, y, z⟩ w12 ⟨H12, hz, hy0, hy1, hz1⟩
 show RunC P _ _ _ (_ :: _) _
 refine Z03 (Z00 (Zm ?_))
 refine Zm ?_
 refine Z1A rfl rfl underlying3 underlying30 rfl (Z0M ZO) ?_
 refine Z17 H12 rfl rfl underlying47 ti30 rfl (.cons rfl ZR .nil) rfl rfl rfl (fun b12_3 w13 H13 => ?_)
 refine Z0N rfl rfl func76 rfl rfl (.cons rfl .nil) (numR _ [y] (U.one ZO) (by simp) w13 (H13.ibl mem0)) ?_
 rintro vn w14 ⟨_, ln, rfl, hRn, hG⟩
 have H14 := hG _ _ _ _ H13
 simp only [Zca, Zna] at H14
 have hRy : R16 ln y := by simpa [Ma.vb] using hRn
 have hby : Ma.blen y ≤ (64 : Nat) := (Ma.blen_le_iff hy0 64).2 (by rw [show (2 : Int) ^ 64 = 18446744073709551616 from by decide]; omega)
 have hdl := dtx_lt (n := y) ZO
 refine Zc func75 (digitsR vn ln y hRy (by have := hRy.len (k := 64) hby; omega) w14 (H14.io mem0)) ?_
 rintro _ w15 ⟨rfl, hG⟩
 have H15 := hG _ _ _ _ H14
 simp only [Zca, Zna] at H15
 refine Z3V H15 rfl rfl underlying9 underlying26 underlying5 rfl (fun v12_6 w16 H16 => ?_)
 have H17 := St.front3 H16
 refine Z0S H17 rfl rfl underlying26 ti5 rfl rfl rfl (by first | exact H17.io mem0 | exact H17.ii mem1 | exact H17.io mem2 | exact H17.ibl mem3 | exact H17.iarg hv | assumption) (by first | exact Z10 _ _ | exact Z1f _ | simp [Value.oneCell']) (by first | (simp; done) | (simp; omega)) (by first | (simp; done) | (simp; omega)) (fun v12_7 w18 H18 => ?_)
 rw [Z1e] at H18
 refine Zg (Z02 (Z01 ?_))
 refine Zk [4] ?_
 refine Z0f ?_
 refine Z0l results31 rfl ?_
 refine ⟨_, rfl, ?_⟩
 have H21 := St.del (.tail .head) (St.del (.tail (.tail .head)) (St.del (.tail (.tail (.tail .head))) H18))
 refine ⟨_, rfl, ?_⟩
 unfold vlT
 rw [← hz, ← List.append_assoc]
 exact H21.grows
section
variable {P : Program} {N : Nat} {ops : Array Oper} {ρ : Env} {w w0 : World} {rest : List Oper} {d : Nat} {ty : TypeId} {pos : String} {af : Array Edge} {g : Option (Nat × Bool)} {B : Nat} {M : Nat → Prop} {σ : List As}
theorem Z1V {Q : Post} {s x : Operand} {t e : TypeId} {z y : Value} {bytes gb n : Nat} {cs news : List Value} (hw : St w0 B M σ w) (hg : Z0u ops ρ g = true) (hN : Nat.blt d N = true) (ht : P.underlying t = some (.slice e)) (hi : (P.info? e).map (fun i => (i.zero, i.size, i.bytes)) = some (some z, 1, bytes)) (hzs : z.cells.size = 1)
  (hs : Z0i ρ s = some (.slice (some ⟨gb, 0, none⟩) n n)) (hx : Z0i ρ x = some y) (hsl : IV w (.slice (some ⟨gb, 0, none⟩) n n) cs) (hy : IV w y news) (hne : news ≠ []) (hbytes : (n + news.length) * bytes ≤ 140737488355328) (h63 : n + news.length ≤ 9223372036854775807)
  (nx : ∀ v' w', St w0 B M (As.ro e v' (cs ++ news) :: σ) w' → RunL P N ops ⟨false, Q⟩ rest ((d, v') :: ρ) w') : RunL P N ops ⟨false, Q⟩ (⟨some d, .call ⟨.builtin .append, #[s, x], #[t, t]⟩, ty, pos, af, g⟩ :: rest) ρ w := by
 obtain ⟨i, hi2, h2, h3, h4⟩ := info_parts hi
 obtain ⟨A, c, rfl, hcm, hnews⟩ := hy
 obtain ⟨A1, c1, e1, hc1, hcs⟩ := hsl
 injection e1 with a1 a2 a3
 subst a1
 obtain ⟨a, rfl⟩ := hnews.some_ (List.length_pos_iff.2 hne)
 have hm := List.length_pos_iff.2 hne
 subst h4
 have hr := run_append_grow (P := P) w t ty e i z ht hi2 h2 ⟨gb, 0, none⟩ n n cs (by rw [h3]; omega) (fun j u hj => by obtain ⟨ad, e, hc⟩ := hcs j u hj; cases e; exact hc) a news.length c news (by rw [h3]; omega) (fun j u hj => by obtain ⟨ad, e, hc⟩ := hnews j u hj; cases e; exact hc) ZO ZO (growslice_fits ZO hbytes)
 have hge := grownCap_ge w (n + news.length) n e
 have hlen : (cs ++ news).length = (n + news.length) * 1 := by rw [List.length_append]; omega
 have hown : Own (w.drew.alloc (.cells (cs.toArray ++ news.toArray ++ Builtin.zeroCells z.cells (grownCap w (n + news.length) n e - (n + news.length))) e)) e 1 (.slice (some ⟨w.heap.size, 0, none⟩) (n + news.length) (grownCap w (n + news.length) n e)) (n + news.length) (cs ++ news) := by
  refine ⟨hlen, .inr ⟨w.heap.size, 0, _, _, rfl, hge, grownCap_le_maxLen w (n + news.length) n e (by simp only [maxLen]; omega), heap_alloc_new w.drew _, ?_, ?_⟩⟩
  ·simp only [Array.size_append, List.size_toArray, size_zeroCells, hzs]
   omega
  simp only [List.drop_zero, Array.toList_append, List.append_assoc]
  rw [← List.append_assoc, ← hlen]
  exact List.take_left
 have hex : Ext w.heap.size (fun _ => False) w (w.drew.alloc (.cells (cs.toArray ++ news.toArray ++ Builtin.zeroCells z.cells (grownCap w (n + news.length) n e - (n + news.length))) e)) := ⟨rfl, rfl, rfl, by simp, fun k hk _ => Below.heap_alloc w.drew _ k hk⟩
 refine Z20 (fun h => by cases h) hg rfl hN (fun ha' ha => by simp [execOp, ha.eval hs, ha.eval hx, resolve, invoke, builtin, hr]) (nx (.slice (some ⟨w.heap.size, 0, none⟩) (n + news.length) (grownCap w (n + news.length) n e)) _ ((hw.grow (hex.mono (Nat.le_refl _) fun k _ hk => hk.elim) _ hown fun k hk => ?_).cast (by unfold As.ro; rw [List.length_append, show cs.length = n by omega])))
 have : w.heap.size = k := by simpa [As.own, Value.ownBlock] using hk
 subst this
 exact ⟨Nat.le_refl _, by simp⟩
theorem l_mark2 {Q : Post} {x : Operand} {T e E : TypeId} {b n' : Nat} {cs : List Value} (hw : St w0 B M (As.blk b E cs :: σ) w) (hg : Z0u ops ρ g = true) (hN : Nat.blt d N = true) (hT : P.underlying T = some (.slice e)) (he : P.underlying e = some (.int .u8)) (hx : Z0i ρ x = some (.slice (some ⟨b, 0, none⟩) n' n')) (hn : cs.length = n')
  (n : ∀ w', St w0 B M (As.iv (.slice (some ⟨b, 0, none⟩) n' n') cs :: σ) w' → RunL P N ops ⟨false, Q⟩ rest ((d, .slice (some ⟨b, 0, none⟩) n' n') :: ρ) w') : RunL P N ops ⟨false, Q⟩ (⟨some d, .convert T T x, ty, pos, af, g⟩ :: rest) ρ w := by
 subst hn
 have hb : w.heap[b]? = some (.cells cs.toArray E (0, 0)) := hw.ok mem0
 have hlt : b < w.heap.size := (Array.getElem?_eq_some_iff.1 hb).1
 have hsh : w.shape? b = some (E, cs.length) := by simp [World.shape?, hb]
 have hb2 : (w.freeze { block := b, off := cs.length } 1).heap[b]? = some (.cells cs.toArray E (cs.length, cs.length + 1)) := by
  simp [World.freeze, Array.getElem?_modify, hb]
 refine Z20 (w' := w.freeze { block := b, off := cs.length } 1) (v := .slice (some ⟨b, 0, none⟩) cs.length cs.length) (fun h => by cases h) hg rfl hN (fun a ha => ?_) (n _ ?_)
 ·simp [execOp, ha.eval hx, convert, run_underlying hT, run_underlying he, markStringish, hsh]
 refine hw.upd .head (w' := w.freeze { block := b, off := cs.length } 1) ⟨rfl, rfl, rfl, by simp [World.freeze], fun k hk hm => ?_⟩ ⟨some ⟨b, 0, none⟩, cs.length, rfl, Nat.le_refl _, fun j v hj => ⟨_, rfl, ?_⟩⟩ fun k hk => ?_
 ·have : ¬ b = k := fun h => hm h.symm
  simp [World.freeze, Array.getElem?_modify, this]
 ·rw [Z1Q, Nat.zero_add, cell_of_row _ b _ cs.toArray E (cs.length, cs.length + 1) hb2]
  simpa using hj
 have : b = k := by simpa [As.iv, Value.ownBlock] using hk
 subst this
 exact ⟨.inl rfl, by simp [World.freeze]; exact hlt⟩
end
theorem Z2T {w : World} {A : Option Addr} {c j : Nat} {T W R : L8} (hT : T = W ++ R) (hj : W.length = j) (h : IB w (.slice A T.length c) T) : IV w (.slice (cutA A 0 c 1) (j - 0) (c - 0)) (bys W) := by
 obtain ⟨A1, c1, e, hc, hs⟩ := h
 injection e with e1 e2 e3
 subst e1 e3
 have hb : (bys T).length = T.length := by simp [bys]
 have hl : T.length = W.length + R.length := by rw [hT, List.length_append]
 have h2 := IV.cut (c := c) (l := 0) (k := j) (m := c) hs ZO ZO ZO
 rw [show ((bys T).take j).drop 0 = bys W by rw [List.drop_zero, hT, ← hj]; simp [bys]] at h2
 exact h2
theorem Z2l {w : World} {A : Option Addr} {c j : Nat} {T W R : L8} (hT : T = W ++ R) (hj : W.length = j) (h : IB w (.slice A T.length c) T) : IV w (.slice (cutA A j c 1) (T.length - j) (c - j)) (bys R) := by
 obtain ⟨A1, c1, e, hc, hs⟩ := h
 injection e with e1 e2 e3
 subst e1 e3
 have hb : (bys T).length = T.length := by simp [bys]
 have hl : T.length = W.length + R.length := by rw [hT, List.length_append]
 have h2 := IV.cut (c := c) (l := j) (k := T.length) (m := c) hs ZO ZO ZO
 rw [show ((bys T).take T.length).drop j = bys R by rw [List.take_of_length_le ZO, hT, ← hj]; simp [bys]] at h2
 exact h2
theorem dg9 (c : UInt8) : 49 + (c.toNat : Int) % 9 = ((49 + c % 9 : UInt8).toNat : Int) := by
 have key : ∀ c : UInt8, 49 + c.toNat % 9 = (49 + c % 9 : UInt8).toNat := all8 (by decide +kernel)
 have := key c
 omega
theorem vl_at (l : L8) (x : Int) (j : Nat) (hj : j ≤ (vlW l).length) : (j = (vlW l).length → (((vlT l x).getD j 0).toNat : Int) = 101) ∧ (j < (vlW l).length → ¬ (((vlT l x).getD j 0).toNat : Int) = 101) := by
 refine ⟨fun h => ?_, fun h => ?_⟩
 ·have e : (vlT l x).getD j 0 = 101 := by
   unfold vlT
   rw [List.append_assoc, h]
   simp [List.getD]
  rw [e]; rfl
 have e : (vlT l x).getD j 0 = (vlW l)[j] := by
  unfold vlT
  rw [List.append_assoc]
  simp [List.getD, List.getElem?_append_left h, h]
 have := Z4p l _ (List.getElem_mem h)
 rw [e]
 unfold isD at this
 omega
def oT2 (l : L8) (c : UInt8) (x : Int) : L8 := vlW l ++ [46, c] ++ ([101] ++ vlE x)
def oT3 (l : L8) (x : Int) : L8 := [48, 48] ++ vlW l ++ [46, 48, 48] ++ ([101] ++ vlE x)
theorem oT_len (l : L8) (c : UInt8) {x : Int} (hx : -400 < x ∧ x < 400) : (oT2 l c x).length ≤ 100 ∧ (oT3 l x).length ≤ 100 := by
 have h1 := Z3h l
 have h2 := vlE_len hx
 unfold oT2 oT3
 simp only [List.length_append, List.length_singleton, List.length_cons, List.length_nil]
 omega
theorem form2 (l : L8) {x : Int} (hx : -400 < x ∧ x < 400) {c : UInt8} (hc : isD c) : Form (oT2 l c x) false (vlW l) [c] x := by
 unfold oT2
 have h := vl_form (W := vlW l) (F := [c]) (pt := [46]) hx (Z4p l) (fun y hy => by rw [List.mem_singleton.1 hy]; exact hc) (List.length_pos_iff.1 (Z3h l).1) (.inr rfl)
 rw [show vlW l ++ [46, c] ++ ([101] ++ vlE x) = vlW l ++ ([46] ++ ([c] ++ ([101] ++ vlE x))) by simp]
 exact h
theorem form3 (l : L8) {x : Int} (hx : -400 < x ∧ x < 400) : Form (oT3 l x) false ([48, 48] ++ vlW l) [48, 48] x := by
 unfold oT3
 have h := vl_form (W := [48, 48] ++ vlW l) (F := [48, 48]) (pt := [46]) hx (fun y hy => (List.mem_append.1 hy).elim (fun h => by simp at h; subst h; decide) (Z4p l y)) (fun y hy => by simp at hy; subst hy; decide) (by simp) (.inr rfl)
 rw [show [48, 48] ++ vlW l ++ [46, 48, 48] ++ ([101] ++ vlE x) = [48, 48] ++ vlW l ++ ([46] ++ ([48, 48] ++ ([101] ++ vlE x))) by simp]
 exact h
theorem order_same {d : Kd} {W : L8} {x : Int} {t1 t3 : Int × Bool × Int} (h1 : fltT d (pv (W ++ [])) (x - (([] : L8).length : Int)) t1) (h3 : fltT d (pv ([48, 48] ++ W ++ [48, 48])) (x - (([48, 48] : L8).length : Int)) t3) : t3 = t1 := by
 have e1 := Z1r ([48, 48] ++ W) 2 [48, 48] rfl
 have e2 := Z1r [48, 48] W.length W rfl
 rw [show pv [48, 48] = 0 from by decide, Int.zero_mul, Int.zero_add] at e2
 rw [show pv [48, 48] = 0 from by decide, e2, Int.add_zero] at e1
 rw [List.append_nil] at h1
 exact h3.unique (flt_scale (m := pv W) (x := x) (xx := x - 2) (q := 2) ZO e1 (by simpa using h1))
theorem order_up {d : Kd} {W : L8} {x : Int} {c : UInt8} {t1 t2 : Int × Bool × Int} (hc : isD c) (h1 : fltT d (pv (W ++ [])) (x - (([] : L8).length : Int)) t1) (h2 : fltT d (pv (W ++ [c])) (x - (([c] : L8).length : Int)) t2) : vlR (d.I - 1) t1 ≤ vlR (d.I - 1) t2 := by
 have e1 := Z1r W 1 [c] rfl
 have e3 : pv [c] = (c.toNat : Int) - 48 := by simp [pv]
 unfold isD at hc
 rw [List.append_nil] at h1
 exact flt_mono (n := pv W * 10 ^ 1) (x := x - 1) ZO (flt_scale (x := x) (xx := x - 1) (q := 1) ZO rfl (by simpa using h1)) h2
theorem order_law {d : Kd} {k : Int} {N D N' D' : Int} {t1 t2 : Int × Bool × Int} (hk : kd k = some d) (h1 : RndR d.H (d.I - 1) N D t1) (h2 : RndR d.H (d.I - 1) N' D' t2) (h : vlR (d.I - 1) t1 ≤ vlR (d.I - 1) t2) :
  (¬ t1.2.2 = 0 → ¬ t2.2.2 = 0) ∧ (t1.2.2 = 0 → t2.2.2 = 0 → (cmF k t1.1 t2.1).2 = 0 ∧ (cmF k t1.1 t2.1).1 ≤ 0) := by
 have b1 := h1.bits
 have b2 := h2.bits
 have hI := d.I_lt
 have hbd := d.bd
 unfold vlR at h
 refine ⟨fun h3 h4 => ?_, fun h3 h4 => ?_⟩
 ·rw [if_neg h3, if_pos h4] at h
  omega
 rw [if_pos h3, if_pos h4] at h
 have m1 : t1.1 % d.S = t1.1 := Int.emod_eq_of_lt ZO ZO
 have m2 : t2.1 % d.S = t2.1 := Int.emod_eq_of_lt ZO ZO
 rw [cmF_at hk ZO ZO, m1, m2, if_neg ZO]
 refine ⟨rfl, cmpI_le.2 ?_⟩
 unfold ordS
 rw [if_neg ZO, if_neg ZO, m1, m2]
 exact h
theorem parseOrderL (n : Int) (hn : -9223372036854775808 ≤ n ∧ n ≤ 9223372036854775807) (v : Value) (l : L8) (x : Int) (la : UInt8) (w : World) (hv : IB w v l) :
  Z0g P 9 [.int .i64 n, v, .int .i64 x, .int .u8 (la.toNat : Int)] w fun r w' => r = .bool true ∧ Grow w w' [] := by
 refine Z0o func9 rfl ntmps9 rfl ?_
 have H0 := St.start w
 obtain ⟨d, hk⟩ := kd_fit n
 have hxb := tmod4 x
 have hlo := oT_len l (49 + la % 9) hxb
 have hlT := vlT_len l hxb
 have hwl := Z3h l
 have hel := vlE_len hxb
 obtain ⟨c, hcc⟩ : ∃ c : UInt8, c = 49 + la % 9 := ⟨_, rfl⟩
 rw [← hcc] at hlo
 have hcd : isD c := by
  have h1 := dg9 la
  rw [← hcc] at h1
  unfold isD
  omega
 have hT0 : (vlT l (x.tmod 400)).length = (vlW l).length + 1 + (vlE (x.tmod 400)).length := by unfold vlT; simp only [List.length_append, List.length_singleton]
 refine Z03 (Z00 (Zg (Z02 (Z01 ?_))))
 refine Zk [0, 1, 2, 3] ?_
 refine Z03 (Z00 (Zm ?_))
 refine Z1d rfl rfl rfl rfl rfl (and_i1 hn) ?_
 refine Z0t rfl rfl rfl rfl (Z0h ZO) ?_
 refine Zg (Z02 (Z01 ?_))
 refine Zk [1, 2, 3, 9] ?_
 refine Z03 (Z00 (Zm ?_))
 refine Z2x rfl rfl rfl rfl ZO (rfl) ?_
 refine Zg (Z02 (Z01 ?_))
 refine Zk [1, 2, 3, 9] ?_
 refine Z03 (Z00 ?_)
 refine Zc func11 (newC w) ?_
 rintro _ w1 ⟨b, rfl, hG⟩
 have H1 := hG _ _ _ _ H0
 simp only [Zca, Zna] at H1
 refine Zg (Z02 (Z01 ?_))
 refine Zk [1, 2, 3, 9, 10] ?_
 refine Z03 (Z03 (Z00 (Zm ?_)))
 refine l_eqlp ZK rfl rfl rfl rfl ?_
 refine Z0q (s := 36) (v' := .bool false) rfl (by rfl) ?_
 refine Zm ?_
 refine Zc func12 (Z4m w1) ?_
 rintro _ w2 ⟨rfl, hG⟩
 have H2 := hG _ _ _ _ H1
 simp only [Zca, Zna] at H2
 first | refine Z1c rfl rfl rfl ?_ | refine Z1N rfl rfl rfl ?_
 refine Z0q (s := 39) (v' := .bool false) rfl (by rfl) ?_
 refine Z1a rfl rfl rfl rfl ?_
 refine Z02 (Z01 ?_)
 refine Zk [1, 2, 3, 9, 10, 40] ?_
 refine Z1D rfl rfl ?_
 refine Z09 (Z01 ?_)
 refine Zk [1, 2, 3, 9, 10] ?_
 refine Z03 (Z00 (Zm ?_))
 refine Zm ?_
 refine Zc func31 (valueL9 v l (x.tmod 400) hxb w2 (H2.iarg hv)) ?_
 rintro _ w3 ⟨vt, rfl, hG⟩
 have H3 := hG _ _ _ _ H2
 simp only [Zca, Zna] at H3
 obtain ⟨A1, c1, rfl, hv1⟩ := IB.sl (t := vlT l (x.tmod 400)) (H3.io mem0)
 have hc1' : (vlT l (x.tmod 400)).length ≤ c1 := by
  obtain ⟨_, _, e, h2, _⟩ := hv1
  injection e with _ _ e3
  rw [e3]
  simpa [bys] using h2
 refine Zg (Z02 (Z01 ?_))
 refine Zk [3, 9, 10, 11] ?_
 refine Z03 (Z00 (Zg (Z02 (Z01 (Z03 (Z0c ?_))))))
 refine Z0v (ι := Nat) (fun (j : Nat) => (vlW l).length - j) (fun (j : Nat) (w' : World) => St w w.heap.size Z0B ([As.rb 5 (.slice A1 (vlT l (x.tmod 400)).length c1) (vlT l (x.tmod 400)), As.blk b 103 (cacC (List.replicate 41 none)), As.many (inR (List.replicate 41 none))]) w' ∧ j ≤ (vlW l).length) (fun (j : Nat) => [(12, .int .i64 (j : Int))]) [3, 9, 10, 11] (0) ?_ (.cons rfl (.cons rfl (.cons rfl (.cons rfl .nil)))) ?_ ?_
 ·exact ⟨H3, ZO⟩
 ·exact (.cons rfl ZN .nil)
 rintro j w4 ⟨H4, hj⟩
 show RunC P _ _ _ (_ :: _) _
 refine Z03 (Z03 (Z00 ?_))
 have hat := vl_at l (x.tmod 400) j hj
 refine Zm ?_
 refine Zm ?_
 refine Z0V (j := j) rfl rfl rfl rfl underlying26 tz5 underlying5 rfl rfl (by first | exact H4.io mem0 | exact H4.ibl mem1 | exact H4.iarg hv | assumption) rfl ZO ZI (fun hb8_2 => ?_)
 refine Zo ?_
 refine Z02 (Z01 ?_)
 refine Zk [3, 9, 10, 11, 12, 48] ?_
 (first | refine Z08 rfl ?_ ?_ | refine Z05 rfl ?_ ?_) <;> intro hc1
 ·refine Z09 (Z01 ?_)
  refine Zk [3, 9, 10, 11, 12] ?_
  refine Z0c (Z00 (Zm ?_))
  refine Z0t rfl rfl rfl rfl (Z0h ZO) ?_
  refine Zg (Z02 ?_)
  refine Z0z ?_
  refine Z0j (i := (j)) (j + 1) ?_ ?_ (.cons rfl (.cons rfl (.cons rfl (.cons rfl .nil)))) ?_
  ·first | omega | (simp; omega)
  ·exact ⟨H4, ZO⟩
  exact (.cons rfl ZN .nil)
 refine Z0y ?_
 refine Z04 ?_
 refine Z04 ?_
 refine Z0d ?_
 refine Z01 ?_
 refine Zk [3, 9, 10, 11, 12] ?_
 refine Z03 (Z00 ?_)
 have hat := vl_at l (x.tmod 400) j hj
 obtain rfl : j = (vlW l).length := by omega
 refine Zm ?_
 refine Zm ?_
 refine Zm ?_
 have H5 := St.frontL (l := [_, _]) H4
 simp only [Zca, Zna] at H5
 have H6 := St.frontL (l := [_, _]) H5
 simp only [Zca, Zna] at H6
 refine Zc func16 (Z2v b (List.replicate 41 none) (List.length_replicate ..) (9 + n % 2) A1 c1 (vlT l (x.tmod 400)) ZO w4 (St.rows (τ := cacW b (List.replicate 41 none)) H6) (Z2B (τ := cacW b (List.replicate 41 none)) H6 (A := As.rb 5 (.slice A1 (vlT l (x.tmod 400)).length c1) (vlT l (x.tmod 400))) (.head _) (R := fun w1 => IB w1 (.slice A1 (vlT l (x.tmod 400)).length c1) (vlT l (x.tmod 400))) (fun w1 h => Own.iv h))) ?_
 rintro _ w7 ⟨bb1, ro1, pl1, e1, L1, o1, rfl, hF1, hNe1, hCa1, hL1, hX⟩
 have H7 := hX _ _ _ _ H6
 simp only [cacW, List.cons_append, List.nil_append] at H7
 refine Zm ?_
 refine Zx (Zx (Zx (Zx (Zg ?_))))
 refine Zg ?_
 refine Zg ?_
 refine Zg (Z02 (Z01 ?_))
 refine Zk [3, 9, 10, 11, 12, 13, 16] ?_
 refine Z0R (ι := Value) (fun (vq : Value) (w' : World) => St w w.heap.size Z0B ([As.rb 5 vq (oT2 l c (x.tmod 400)), As.blk b 103 (cacC L1), As.many (inR L1), As.rb 5 (.slice A1 (vlT l (x.tmod 400)).length c1) (vlT l (x.tmod 400))]) w' ∧ 1 = 1) (fun (vq : Value) => [(17, vq)]) [9, 10, 11, 12, 13, 16] (.cons rfl (.cons rfl (.cons rfl (.cons rfl (.cons rfl (.cons rfl .nil)))))) ?_ ?_
 ·have H8 := H7.drewn
  refine Z2t (n := 15) [Zz,Zz,Zz,Zz,Zz,Zz,Zz,Zz,Zz,Zz,Zz,Zz,Zz,Zz,Zz] (fun wS => True) ZK rfl rfl ?_
  apply Zu (L' := [Zz,Zy,Zz,Zz,Zz,Zz,Zz,Zz,Zz,Zz,Zz,Zz,Zz,Zz,Zz]) 1 (trivial)
  ·intro wS sS
   refine Zm (Z02 ?_)
   exact Z0m rfl
  apply Zu (L' := [Zz,Zy,Zy,Zz,Zz,Zz,Zz,Zz,Zz,Zz,Zz,Zz,Zz,Zz,Zz]) 2 (trivial)
  ·intro wS sS
   refine Zm (Z02 ?_)
   exact Z0m rfl
  apply Zu (L' := [Zz,Zy,Zy,Zy,Zz,Zz,Zz,Zz,Zz,Zz,Zz,Zz,Zz,Zz,Zz]) 3 (trivial)
  ·intro wS sS
   refine Z28 (size := 1) (l := 0) (h := (vlW l).length) (mm := c1) rfl rfl underlying26 tz5 rfl rfl rfl rfl rfl rfl rfl (by simp) ZO ZO (Nat.le_refl _) ?_
   refine Z02 ?_
   exact Z0m rfl
  apply Zu (L' := [Zz,Zy,Zy,Zy,Zz,Zy,Zz,Zz,Zz,Zz,Zz,Zz,Zz,Zz,Zz]) 5 (trivial)
  ·intro wS sS
   refine Zm (Z02 ?_)
   exact Z0m rfl
  apply Zu (L' := [Zz,Zy,Zy,Zy,Zz,Zy,Zy,Zz,Zz,Zz,Zz,Zz,Zz,Zz,Zz]) 6 (trivial)
  ·intro wS sS
   refine Z2x rfl rfl rfl rfl ZO (Z2P ZO) ?_
   refine Z02 ?_
   exact Z0m rfl
  apply Zu (L' := [Zz,Zy,Zy,Zy,Zz,Zy,Zy,Zy,Zz,Zz,Zz,Zz,Zz,Zz,Zz]) 7 (trivial)
  ·intro wS sS
   refine Z0t rfl rfl rfl rfl (w_u8 ZO) ?_
   refine Z02 ?_
   exact Z0m rfl
  apply Zu (L' := [Zz,Zy,Zy,Zy,Zz,Zy,Zy,Zy,Zz,Zz,Zy,Zz,Zz,Zz,Zz]) 10 (trivial)
  ·intro wS sS
   refine Zm (Z02 ?_)
   exact Z0m rfl
  apply Zu (L' := [Zz,Zy,Zy,Zy,Zz,Zy,Zy,Zy,Zz,Zz,Zy,Zy,Zz,Zz,Zz]) 11 (trivial)
  ·intro wS sS
   refine Zm (Z02 ?_)
   exact Z0m rfl
  apply Zu (L' := [Zz,Zy,Zy,Zy,Zz,Zy,Zy,Zy,Zz,Zz,Zy,Zy,Zy,Zz,Zz]) 12 (trivial)
  ·intro wS sS
   refine Z28 (size := 1) (l := (vlW l).length) (h := (vlT l (x.tmod 400)).length) (mm := c1) rfl rfl underlying26 tz5 rfl rfl rfl rfl rfl rfl rfl (by simp) ZO ZO (Nat.le_refl _) ?_
   refine Z02 ?_
   exact Z0m rfl
  refine Z3T (L' := [Zy,Zy,Zy,Zy,Zz,Zy,Zy,Zy,Zz,Zz,Zy,Zy,Zy,Zz,Zz]) (L'' := [Zz,Zy,Zy,Zy,Zz,Zy,Zy,Zy,Zy,Zz,Zy,Zy,Zy,Zz,Zz]) 0 8 ZK rfl rfl rfl rfl ?_ ?_
  ·refine v_lit0 H8 rfl rfl underlying26 tz5 (fun v11_0 w9 H9 => ?_)
   refine Z02 ?_
   refine Z0D (trivial) ?_
   refine Z3T (L' := [Zy,Zy,Zy,Zy,Zy,Zy,Zy,Zy,Zz,Zz,Zy,Zy,Zy,Zz,Zz]) (L'' := [Zy,Zy,Zy,Zy,Zz,Zy,Zy,Zy,Zy,Zz,Zy,Zy,Zy,Zz,Zz]) 4 8 ZK rfl rfl rfl rfl ?_ ?_
   ·have hpre : IV w9 (.slice (cutA A1 0 c1 1) ((vlW l).length - 0) (c1 - 0)) (bys (vlW l)) := Z2T (T := vlT l (x.tmod 400)) (R := [101] ++ vlE (x.tmod 400)) (List.append_assoc ..) rfl (H9.io mem3)
    refine Z0S H9 rfl rfl underlying26 ti5 rfl rfl rfl (by first | exact H9.io mem0 | exact H9.ibl mem1 | exact H9.io mem3 | exact H9.iarg hv | assumption) (by first | exact Z10 _ _ | exact Z1f _ | simp [Value.oneCell']) (by first | (simp; done) | (simp; omega)) (by first | (simp; done) | (simp; omega)) (fun v11_4 w10 H10 => ?_)
    simp only [List.nil_append] at H10
    refine Z02 ?_
    refine Z0D (trivial) ?_
    refine Z0K (L' := [Zy,Zy,Zy,Zy,Zy,Zy,Zy,Zy,Zy,Zz,Zy,Zy,Zy,Zz,Zz]) 8 ZK rfl rfl ?_
    refine Z0q (s := 67) (v' := .int .u8 ((c : UInt8).toNat : Int)) rfl (by rw [hcc, ← dg9]) ?_
    refine Z17 H10 rfl rfl underlying26 ti5 rfl (.cons rfl ZR (.cons rfl ZR .nil)) rfl rfl rfl (fun b11_8 w11 H11 => ?_)
    refine Z02 ?_
    refine Z0D (trivial) ?_
    refine Z0K (L' := [Zy,Zy,Zy,Zy,Zy,Zy,Zy,Zy,Zy,Zy,Zy,Zy,Zy,Zz,Zz]) 9 ZK rfl rfl ?_
    refine Z2d H11 rfl rfl underlying26 ti5 rfl rfl rfl rfl (by first | (simp [Value.oneCell']; done) | (intro u hu; rw [List.mem_singleton.1 hu]; assumption)) (by first | (simp; done) | (simp; omega)) (by first | (simp; done) | (simp; omega)) (fun v11_9 w12 H12 => ?_)
    rw [show bys (vlW l) ++ [.int .u8 46, .int .u8 ((c : UInt8).toNat : Int)] = bys (vlW l ++ [46, c]) from Z1e _ [46, c]] at H12
    refine Z02 ?_
    refine Z0D (trivial) ?_
    refine Z0K (L' := [Zy,Zy,Zy,Zy,Zy,Zy,Zy,Zy,Zy,Zy,Zy,Zy,Zy,Zy,Zz]) 13 ZK rfl rfl ?_
    have hpost : IV w12 (.slice (cutA A1 (vlW l).length c1 1) ((vlT l (x.tmod 400)).length - (vlW l).length) (c1 - (vlW l).length)) (bys ([101] ++ vlE (x.tmod 400))) := Z2l (T := vlT l (x.tmod 400)) (W := vlW l) (List.append_assoc ..) rfl (H12.io mem3)
    refine Z0S H12 rfl rfl underlying26 ti5 rfl rfl rfl (by first | exact H12.io mem0 | exact H12.ibl mem1 | exact H12.io mem3 | exact H12.iarg hv | assumption) (by first | exact Z10 _ _ | exact Z1f _ | simp [Value.oneCell']) (by first | (simp; done) | (simp; omega)) (by first | (simp; done) | (simp; omega)) (fun v11_13 w13 H13 => ?_)
    rw [Z1e] at H13
    refine Z02 ?_
    refine Z0D (trivial) ?_
    apply Zu (L' := [Zy,Zy,Zy,Zy,Zy,Zy,Zy,Zy,Zy,Zy,Zy,Zy,Zy,Zy,Zy]) 14 (trivial)
    ·intro wS sS
     refine Zg (Z02 ?_)
     exact Z0m rfl
    refine Z14 ZK ?_
    have H14 := St.frontL (l := [_, _, _]) H13
    simp only [Zca, Zna] at H14
    have H15 := St.frontL (l := [_, _, _]) H14
    simp only [Zca, Zna] at H15
    have H16 := St.frontL (l := [_, _, _]) H15
    simp only [Zca, Zna] at H16
    have H17 := St.frontL (l := [_, _, _]) H16
    simp only [Zca, Zna] at H17
    refine Z0s (v11_13) ?_ (.cons rfl (.cons rfl (.cons rfl (.cons rfl (.cons rfl (.cons rfl .nil)))))) ?_
    ·exact ⟨H17, rfl⟩
    exact (.cons rfl ZN .nil)
   refine Z0q (s := 67) (v' := .int .u8 ((c : UInt8).toNat : Int)) rfl (by rw [hcc, ← dg9]) ?_
   refine Z17 H9 rfl rfl underlying26 ti5 rfl (.cons rfl ZR (.cons rfl ZR .nil)) rfl rfl rfl (fun b11_8 w18 H18 => ?_)
   refine Z02 ?_
   refine Z0D (trivial) ?_
   refine Z0K (L' := [Zy,Zy,Zy,Zy,Zy,Zy,Zy,Zy,Zy,Zz,Zy,Zy,Zy,Zz,Zz]) 4 ZK rfl rfl ?_
   have hpre : IV w18 (.slice (cutA A1 0 c1 1) ((vlW l).length - 0) (c1 - 0)) (bys (vlW l)) := Z2T (T := vlT l (x.tmod 400)) (R := [101] ++ vlE (x.tmod 400)) (List.append_assoc ..) rfl (H18.io mem4)
   have H19 := St.frontL (l := [_]) H18
   simp only [Zca, Zna] at H19
   refine Z0S H19 rfl rfl underlying26 ti5 rfl rfl rfl (by first | exact H19.io mem0 | exact H19.ibl mem1 | exact H19.ibl mem2 | exact H19.io mem4 | exact H19.iarg hv | assumption) (by first | exact Z10 _ _ | exact Z1f _ | simp [Value.oneCell']) (by first | (simp; done) | (simp; omega)) (by first | (simp; done) | (simp; omega)) (fun v11_4 w20 H20 => ?_)
   simp only [List.nil_append] at H20
   refine Z02 ?_
   refine Z0D (trivial) ?_
   refine Z0K (L' := [Zy,Zy,Zy,Zy,Zy,Zy,Zy,Zy,Zy,Zy,Zy,Zy,Zy,Zz,Zz]) 9 ZK rfl rfl ?_
   refine Z0S H20 rfl rfl underlying26 ti5 rfl rfl rfl (by first | exact H20.io mem0 | exact H20.ibl mem1 | exact H20.ibl mem2 | exact H20.io mem4 | exact H20.iarg hv | assumption) (by first | exact Z10 _ _ | exact Z1f _ | simp [Value.oneCell']) (by first | (simp; done) | (simp; omega)) (by first | (simp; done) | (simp; omega)) (fun v11_9 w21 H21 => ?_)
   rw [show bys (vlW l) ++ [.int .u8 46, .int .u8 ((c : UInt8).toNat : Int)] = bys (vlW l ++ [46, c]) from Z1e _ [46, c]] at H21
   refine Z02 ?_
   refine Z0D (trivial) ?_
   refine Z0K (L' := [Zy,Zy,Zy,Zy,Zy,Zy,Zy,Zy,Zy,Zy,Zy,Zy,Zy,Zy,Zz]) 13 ZK rfl rfl ?_
   have hpost : IV w21 (.slice (cutA A1 (vlW l).length c1 1) ((vlT l (x.tmod 400)).length - (vlW l).length) (c1 - (vlW l).length)) (bys ([101] ++ vlE (x.tmod 400))) := Z2l (T := vlT l (x.tmod 400)) (W := vlW l) (List.append_assoc ..) rfl (H21.io mem4)
   refine Z0S H21 rfl rfl underlying26 ti5 rfl rfl rfl (by first | exact H21.io mem0 | exact H21.ibl mem1 | exact H21.ibl mem2 | exact H21.io mem4 | exact H21.iarg hv | assumption) (by first | exact Z10 _ _ | exact Z1f _ | simp [Value.oneCell']) (by first | (simp; done) | (simp; omega)) (by first | (simp; done) | (simp; omega)) (fun v11_13 w22 H22 => ?_)
   rw [Z1e] at H22
   refine Z02 ?_
   refine Z0D (trivial) ?_
   apply Zu (L' := [Zy,Zy,Zy,Zy,Zy,Zy,Zy,Zy,Zy,Zy,Zy,Zy,Zy,Zy,Zy]) 14 (trivial)
   ·intro wS sS
    refine Zg (Z02 ?_)
    exact Z0m rfl
   refine Z14 ZK ?_
   have H23 := St.frontL (l := [_, _, _, _]) H22
   simp only [Zca, Zna] at H23
   have H24 := St.frontL (l := [_, _, _, _]) H23
   simp only [Zca, Zna] at H24
   have H25 := St.frontL (l := [_, _, _, _]) H24
   simp only [Zca, Zna] at H25
   have H26 := St.frontL (l := [_, _, _]) H25
   simp only [Zca, Zna] at H26
   have H27 := St.del (.tail (.tail (.tail (.tail .head)))) H26
   refine Z0s (v11_13) ?_ (.cons rfl (.cons rfl (.cons rfl (.cons rfl (.cons rfl (.cons rfl .nil)))))) ?_
   ·exact ⟨H27, rfl⟩
   exact (.cons rfl ZN .nil)
  refine Z0q (s := 67) (v' := .int .u8 ((c : UInt8).toNat : Int)) rfl (by rw [hcc, ← dg9]) ?_
  refine Z17 H8 rfl rfl underlying26 ti5 rfl (.cons rfl ZR (.cons rfl ZR .nil)) rfl rfl rfl (fun b11_8 w28 H28 => ?_)
  refine Z02 ?_
  refine Z0D (trivial) ?_
  refine Z0K (L' := [Zy,Zy,Zy,Zy,Zz,Zy,Zy,Zy,Zy,Zz,Zy,Zy,Zy,Zz,Zz]) 0 ZK rfl rfl ?_
  refine v_lit0 H28 rfl rfl underlying26 tz5 (fun v11_0 w29 H29 => ?_)
  refine Z02 ?_
  refine Z0D (trivial) ?_
  refine Z0K (L' := [Zy,Zy,Zy,Zy,Zy,Zy,Zy,Zy,Zy,Zz,Zy,Zy,Zy,Zz,Zz]) 4 ZK rfl rfl ?_
  have hpre : IV w29 (.slice (cutA A1 0 c1 1) ((vlW l).length - 0) (c1 - 0)) (bys (vlW l)) := Z2T (T := vlT l (x.tmod 400)) (R := [101] ++ vlE (x.tmod 400)) (List.append_assoc ..) rfl (H29.io mem4)
  refine Z0S H29 rfl rfl underlying26 ti5 rfl rfl rfl (by first | exact H29.io mem0 | exact H29.ibl mem1 | exact H29.ibl mem2 | exact H29.io mem4 | exact H29.iarg hv | assumption) (by first | exact Z10 _ _ | exact Z1f _ | simp [Value.oneCell']) (by first | (simp; done) | (simp; omega)) (by first | (simp; done) | (simp; omega)) (fun v11_4 w30 H30 => ?_)
  simp only [List.nil_append] at H30
  refine Z02 ?_
  refine Z0D (trivial) ?_
  refine Z0K (L' := [Zy,Zy,Zy,Zy,Zy,Zy,Zy,Zy,Zy,Zy,Zy,Zy,Zy,Zz,Zz]) 9 ZK rfl rfl ?_
  refine Z0S H30 rfl rfl underlying26 ti5 rfl rfl rfl (by first | exact H30.io mem0 | exact H30.ibl mem1 | exact H30.ibl mem2 | exact H30.io mem4 | exact H30.iarg hv | assumption) (by first | exact Z10 _ _ | exact Z1f _ | simp [Value.oneCell']) (by first | (simp; done) | (simp; omega)) (by first | (simp; done) | (simp; omega)) (fun v11_9 w31 H31 => ?_)
  rw [show bys (vlW l) ++ [.int .u8 46, .int .u8 ((c : UInt8).toNat : Int)] = bys (vlW l ++ [46, c]) from Z1e _ [46, c]] at H31
  refine Z02 ?_
  refine Z0D (trivial) ?_
  refine Z0K (L' := [Zy,Zy,Zy,Zy,Zy,Zy,Zy,Zy,Zy,Zy,Zy,Zy,Zy,Zy,Zz]) 13 ZK rfl rfl ?_
  have hpost : IV w31 (.slice (cutA A1 (vlW l).length c1 1) ((vlT l (x.tmod 400)).length - (vlW l).length) (c1 - (vlW l).length)) (bys ([101] ++ vlE (x.tmod 400))) := Z2l (T := vlT l (x.tmod 400)) (W := vlW l) (List.append_assoc ..) rfl (H31.io mem4)
  refine Z0S H31 rfl rfl underlying26 ti5 rfl rfl rfl (by first | exact H31.io mem0 | exact H31.ibl mem1 | exact H31.ibl mem2 | exact H31.io mem4 | exact H31.iarg hv | assumption) (by first | exact Z10 _ _ | exact Z1f _ | simp [Value.oneCell']) (by first | (simp; done) | (simp; omega)) (by first | (simp; done) | (simp; omega)) (fun v11_13 w32 H32 => ?_)
  rw [Z1e] at H32
  refine Z02 ?_
  refine Z0D (trivial) ?_
  apply Zu (L' := [Zy,Zy,Zy,Zy,Zy,Zy,Zy,Zy,Zy,Zy,Zy,Zy,Zy,Zy,Zy]) 14 (trivial)
  ·intro wS sS
   refine Zg (Z02 ?_)
   exact Z0m rfl
  refine Z14 ZK ?_
  have H33 := St.frontL (l := [_, _, _, _]) H32
  simp only [Zca, Zna] at H33
  have H34 := St.frontL (l := [_, _, _, _]) H33
  simp only [Zca, Zna] at H34
  have H35 := St.frontL (l := [_, _, _, _]) H34
  simp only [Zca, Zna] at H35
  have H36 := St.frontL (l := [_, _, _]) H35
  simp only [Zca, Zna] at H36
  have H37 := St.del (.tail (.tail (.tail (.tail .head)))) H36
  refine Z0s (v11_13) ?_ (.cons rfl (.cons rfl (.cons rfl (.cons rfl (.cons rfl (.cons rfl .nil)))))) ?_
  ·exact ⟨H37, rfl⟩
  exact (.cons rfl ZN .nil)
 rintro vq w38 ⟨H38, h12⟩
 show RunC P _ _ _ (_ :: _) _
 refine Z03 (Z00 (Zm ?_))
 refine Zm ?_
 refine Zm ?_
 obtain ⟨A2, c2, rfl, hv2⟩ := IB.sl (t := oT2 l c (x.tmod 400)) (H38.io mem0)
 have H39 := St.frontL (l := [_, _]) H38
 simp only [Zca, Zna] at H39
 have H40 := St.frontL (l := [_, _]) H39
 simp only [Zca, Zna] at H40
 refine Zc func16 (Z2v b L1 hL1 (9 + n % 2) A2 c2 (oT2 l c (x.tmod 400)) ZO w38 (St.rows (τ := cacW b L1) H40) (Z2B (τ := cacW b L1) H40 (A := As.rb 5 (.slice A2 (oT2 l c (x.tmod 400)).length c2) (oT2 l c (x.tmod 400))) (.head _) (R := fun w1 => IB w1 (.slice A2 (oT2 l c (x.tmod 400)).length c2) (oT2 l c (x.tmod 400))) (fun w1 h => Own.iv h))) ?_
 rintro _ w41 ⟨bb2, ro2, pl2, e2, L2, o2, rfl, hF2, hNe2, hCa2, hL2, hX⟩
 have H41 := hX _ _ _ _ H40
 simp only [cacW, List.cons_append, List.nil_append] at H41
 refine Zm ?_
 refine Zx (Zx (Zx (Zx (Zg ?_))))
 refine Zg ?_
 refine Zg ?_
 refine Zg (Z02 (Z01 ?_))
 refine Zk [9, 10, 11, 12, 13, 16, 18, 21] ?_
 refine Z0R (ι := Value) (fun (vr : Value) (w' : World) => St w w.heap.size Z0B ([As.rb 5 vr (oT3 l (x.tmod 400)), As.blk b 103 (cacC L2), As.many (inR L2)]) w' ∧ 1 = 1) (fun (vr : Value) => [(22, vr)]) [9, 10, 13, 16, 18, 21] (.cons rfl (.cons rfl (.cons rfl (.cons rfl (.cons rfl (.cons rfl .nil)))))) ?_ ?_
 ·have H42 := H41.drewn
  refine Z2t (n := 13) [Zz,Zz,Zz,Zz,Zz,Zz,Zz,Zz,Zz,Zz,Zz,Zz,Zz] (fun wS => True) ZK rfl rfl ?_
  apply Zu (L' := [Zz,Zz,Zy,Zz,Zz,Zz,Zz,Zz,Zz,Zz,Zz,Zz,Zz]) 2 (trivial)
  ·intro wS sS
   refine Zm (Z02 ?_)
   exact Z0m rfl
  apply Zu (L' := [Zz,Zz,Zy,Zy,Zz,Zz,Zz,Zz,Zz,Zz,Zz,Zz,Zz]) 3 (trivial)
  ·intro wS sS
   refine Zm (Z02 ?_)
   exact Z0m rfl
  apply Zu (L' := [Zz,Zz,Zy,Zy,Zy,Zz,Zz,Zz,Zz,Zz,Zz,Zz,Zz]) 4 (trivial)
  ·intro wS sS
   refine Z28 (size := 1) (l := 0) (h := (vlW l).length) (mm := c1) rfl rfl underlying26 tz5 rfl rfl rfl rfl rfl rfl rfl (by simp) ZO ZO (Nat.le_refl _) ?_
   refine Z02 ?_
   exact Z0m rfl
  apply Zu (L' := [Zz,Zz,Zy,Zy,Zy,Zz,Zz,Zz,Zy,Zz,Zz,Zz,Zz]) 8 (trivial)
  ·intro wS sS
   refine Zm (Z02 ?_)
   exact Z0m rfl
  apply Zu (L' := [Zz,Zz,Zy,Zy,Zy,Zz,Zz,Zz,Zy,Zy,Zz,Zz,Zz]) 9 (trivial)
  ·intro wS sS
   refine Zm (Z02 ?_)
   exact Z0m rfl
  apply Zu (L' := [Zz,Zz,Zy,Zy,Zy,Zz,Zz,Zz,Zy,Zy,Zy,Zz,Zz]) 10 (trivial)
  ·intro wS sS
   refine Z28 (size := 1) (l := (vlW l).length) (h := (vlT l (x.tmod 400)).length) (mm := c1) rfl rfl underlying26 tz5 rfl rfl rfl rfl rfl rfl rfl (by simp) ZO ZO (Nat.le_refl _) ?_
   refine Z02 ?_
   exact Z0m rfl
  refine Z3T (L' := [Zy,Zz,Zy,Zy,Zy,Zz,Zz,Zz,Zy,Zy,Zy,Zz,Zz]) (L'' := [Zz,Zz,Zy,Zy,Zy,Zz,Zy,Zz,Zy,Zy,Zy,Zz,Zz]) 0 6 ZK rfl rfl rfl rfl ?_ ?_
  ·refine Z17 H42 rfl rfl underlying26 ti5 rfl (.cons rfl ZR (.cons rfl ZR .nil)) rfl rfl rfl (fun b13_0 w43 H43 => ?_)
   refine Z02 ?_
   refine Z0D (trivial) ?_
   refine Z3T (L' := [Zy,Zy,Zy,Zy,Zy,Zz,Zz,Zz,Zy,Zy,Zy,Zz,Zz]) (L'' := [Zy,Zz,Zy,Zy,Zy,Zz,Zy,Zz,Zy,Zy,Zy,Zz,Zz]) 1 6 ZK rfl rfl rfl rfl ?_ ?_
   ·refine l_mark2 H43 rfl rfl underlying26 underlying5 rfl rfl (fun w44 H44 => ?_)
    refine Z02 ?_
    refine Z0D (trivial) ?_
    refine Z3T (L' := [Zy,Zy,Zy,Zy,Zy,Zy,Zz,Zz,Zy,Zy,Zy,Zz,Zz]) (L'' := [Zy,Zy,Zy,Zy,Zy,Zz,Zy,Zz,Zy,Zy,Zy,Zz,Zz]) 5 6 ZK rfl rfl rfl rfl ?_ ?_
    ·have hpre : IV w44 (.slice (cutA A1 0 c1 1) ((vlW l).length - 0) (c1 - 0)) (bys (vlW l)) := Z2T (T := vlT l (x.tmod 400)) (R := [101] ++ vlE (x.tmod 400)) (List.append_assoc ..) rfl (H44.io mem4)
     refine Z1V H44 rfl rfl underlying26 ti5 rfl rfl rfl (H44.ii mem0) hpre (List.length_pos_iff.1 (show 0 < (bys (vlW l)).length by rw [show (bys (vlW l)).length = (vlW l).length by simp [bys]]; omega)) (by rw [show (bys (vlW l)).length = (vlW l).length by simp [bys]]; omega) (by rw [show (bys (vlW l)).length = (vlW l).length by simp [bys]]; omega) (fun v13_5 w45 H45 => ?_)
     rw [show ([.int .u8 48, .int .u8 48] : List Value) ++ bys (vlW l) = bys ([48, 48] ++ vlW l) from Z1e [48, 48] _] at H45
     refine Z02 ?_
     refine Z0D (trivial) ?_
     refine Z0K (L' := [Zy,Zy,Zy,Zy,Zy,Zy,Zy,Zz,Zy,Zy,Zy,Zz,Zz]) 6 ZK rfl rfl ?_
     refine Z17 H45 rfl rfl underlying26 ti5 rfl (.cons rfl ZR (.cons rfl ZR (.cons rfl ZR .nil))) rfl rfl rfl (fun b13_6 w46 H46 => ?_)
     refine Z02 ?_
     refine Z0D (trivial) ?_
     refine Z0K (L' := [Zy,Zy,Zy,Zy,Zy,Zy,Zy,Zy,Zy,Zy,Zy,Zz,Zz]) 7 ZK rfl rfl ?_
     refine Z2d H46 rfl rfl underlying26 ti5 rfl rfl rfl rfl (by first | (simp [Value.oneCell']; done) | (intro u hu; rw [List.mem_singleton.1 hu]; assumption)) (by first | (simp; done) | (simp; omega)) (by first | (simp; done) | (simp; omega)) (fun v13_7 w47 H47 => ?_)
     rw [show bys ([48, 48] ++ vlW l) ++ [.int .u8 46, .int .u8 48, .int .u8 48] = bys ([48, 48] ++ vlW l ++ [46, 48, 48]) from Z1e _ [46, 48, 48]] at H47
     refine Z02 ?_
     refine Z0D (trivial) ?_
     refine Z0K (L' := [Zy,Zy,Zy,Zy,Zy,Zy,Zy,Zy,Zy,Zy,Zy,Zy,Zz]) 11 ZK rfl rfl ?_
     have hpost : IV w47 (.slice (cutA A1 (vlW l).length c1 1) ((vlT l (x.tmod 400)).length - (vlW l).length) (c1 - (vlW l).length)) (bys ([101] ++ vlE (x.tmod 400))) := Z2l (T := vlT l (x.tmod 400)) (W := vlW l) (List.append_assoc ..) rfl (H47.io mem5)
     refine Z0S H47 rfl rfl underlying26 ti5 rfl rfl rfl (by first | exact H47.io mem0 | exact H47.ii mem1 | exact H47.ibl mem2 | exact H47.io mem4 | exact H47.io mem5 | exact H47.iarg hv | assumption) (by first | exact Z10 _ _ | exact Z1f _ | simp [Value.oneCell']) (by first | (simp; done) | (simp; omega)) (by first | (simp; done) | (simp; omega)) (fun v13_11 w48 H48 => ?_)
     rw [Z1e] at H48
     refine Z02 ?_
     refine Z0D (trivial) ?_
     apply Zu (L' := [Zy,Zy,Zy,Zy,Zy,Zy,Zy,Zy,Zy,Zy,Zy,Zy,Zy]) 12 (trivial)
     ·intro wS sS
      refine Zg (Z02 ?_)
      exact Z0m rfl
     refine Z14 ZK ?_
     have H49 := St.frontL (l := [_, _, _]) H48
     simp only [Zca, Zna] at H49
     have H50 := St.frontL (l := [_, _, _]) H49
     simp only [Zca, Zna] at H50
     have H51 := St.frontL (l := [_, _]) H50
     simp only [Zca, Zna] at H51
     have H54 := St.del (.tail (.tail (.tail .head))) (St.del (.tail (.tail (.tail (.tail .head)))) (St.del (.tail (.tail (.tail (.tail (.tail .head))))) H51))
     refine Z0s (v13_11) ?_ (.cons rfl (.cons rfl (.cons rfl (.cons rfl (.cons rfl (.cons rfl .nil)))))) ?_
     ·exact ⟨H54, rfl⟩
     exact (.cons rfl ZN .nil)
    refine Z17 H44 rfl rfl underlying26 ti5 rfl (.cons rfl ZR (.cons rfl ZR (.cons rfl ZR .nil))) rfl rfl rfl (fun b13_6 w55 H55 => ?_)
    refine Z02 ?_
    refine Z0D (trivial) ?_
    refine Z0K (L' := [Zy,Zy,Zy,Zy,Zy,Zy,Zy,Zz,Zy,Zy,Zy,Zz,Zz]) 5 ZK rfl rfl ?_
    have hpre : IV w55 (.slice (cutA A1 0 c1 1) ((vlW l).length - 0) (c1 - 0)) (bys (vlW l)) := Z2T (T := vlT l (x.tmod 400)) (R := [101] ++ vlE (x.tmod 400)) (List.append_assoc ..) rfl (H55.io mem5)
    refine Z1V H55 rfl rfl underlying26 ti5 rfl rfl rfl (H55.ii mem1) hpre (List.length_pos_iff.1 (show 0 < (bys (vlW l)).length by rw [show (bys (vlW l)).length = (vlW l).length by simp [bys]]; omega)) (by rw [show (bys (vlW l)).length = (vlW l).length by simp [bys]]; omega) (by rw [show (bys (vlW l)).length = (vlW l).length by simp [bys]]; omega) (fun v13_5 w56 H56 => ?_)
    rw [show ([.int .u8 48, .int .u8 48] : List Value) ++ bys (vlW l) = bys ([48, 48] ++ vlW l) from Z1e [48, 48] _] at H56
    refine Z02 ?_
    refine Z0D (trivial) ?_
    refine Z0K (L' := [Zy,Zy,Zy,Zy,Zy,Zy,Zy,Zy,Zy,Zy,Zy,Zz,Zz]) 7 ZK rfl rfl ?_
    refine Z0S H56 rfl rfl underlying26 ti5 rfl rfl rfl (by first | exact H56.io mem0 | exact H56.ibl mem1 | exact H56.ii mem2 | exact H56.ibl mem3 | exact H56.io mem5 | exact H56.io mem6 | exact H56.iarg hv | assumption) (by first | exact Z10 _ _ | exact Z1f _ | simp [Value.oneCell']) (by first | (simp; done) | (simp; omega)) (by first | (simp; done) | (simp; omega)) (fun v13_7 w57 H57 => ?_)
    rw [show bys ([48, 48] ++ vlW l) ++ [.int .u8 46, .int .u8 48, .int .u8 48] = bys ([48, 48] ++ vlW l ++ [46, 48, 48]) from Z1e _ [46, 48, 48]] at H57
    refine Z02 ?_
    refine Z0D (trivial) ?_
    refine Z0K (L' := [Zy,Zy,Zy,Zy,Zy,Zy,Zy,Zy,Zy,Zy,Zy,Zy,Zz]) 11 ZK rfl rfl ?_
    have hpost : IV w57 (.slice (cutA A1 (vlW l).length c1 1) ((vlT l (x.tmod 400)).length - (vlW l).length) (c1 - (vlW l).length)) (bys ([101] ++ vlE (x.tmod 400))) := Z2l (T := vlT l (x.tmod 400)) (W := vlW l) (List.append_assoc ..) rfl (H57.io mem6)
    refine Z0S H57 rfl rfl underlying26 ti5 rfl rfl rfl (by first | exact H57.io mem0 | exact H57.ibl mem1 | exact H57.ii mem2 | exact H57.ibl mem3 | exact H57.io mem5 | exact H57.io mem6 | exact H57.iarg hv | assumption) (by first | exact Z10 _ _ | exact Z1f _ | simp [Value.oneCell']) (by first | (simp; done) | (simp; omega)) (by first | (simp; done) | (simp; omega)) (fun v13_11 w58 H58 => ?_)
    rw [Z1e] at H58
    refine Z02 ?_
    refine Z0D (trivial) ?_
    apply Zu (L' := [Zy,Zy,Zy,Zy,Zy,Zy,Zy,Zy,Zy,Zy,Zy,Zy,Zy]) 12 (trivial)
    ·intro wS sS
     refine Zg (Z02 ?_)
     exact Z0m rfl
    refine Z14 ZK ?_
    have H59 := St.frontL (l := [_, _, _, _]) H58
    simp only [Zca, Zna] at H59
    have H60 := St.frontL (l := [_, _, _, _]) H59
    simp only [Zca, Zna] at H60
    have H61 := St.frontL (l := [_, _]) H60
    simp only [Zca, Zna] at H61
    have H65 := St.del (.tail (.tail (.tail .head))) (St.del (.tail (.tail (.tail (.tail .head)))) (St.del (.tail (.tail (.tail (.tail (.tail .head))))) (St.del (.tail (.tail (.tail (.tail (.tail (.tail .head)))))) H61)))
    refine Z0s (v13_11) ?_ (.cons rfl (.cons rfl (.cons rfl (.cons rfl (.cons rfl (.cons rfl .nil)))))) ?_
    ·exact ⟨H65, rfl⟩
    exact (.cons rfl ZN .nil)
   refine Z17 H43 rfl rfl underlying26 ti5 rfl (.cons rfl ZR (.cons rfl ZR (.cons rfl ZR .nil))) rfl rfl rfl (fun b13_6 w66 H66 => ?_)
   refine Z02 ?_
   refine Z0D (trivial) ?_
   refine Z0K (L' := [Zy,Zy,Zy,Zy,Zy,Zz,Zy,Zz,Zy,Zy,Zy,Zz,Zz]) 1 ZK rfl rfl ?_
   have H67 := St.frontL (l := [_]) H66
   simp only [Zca, Zna] at H67
   refine l_mark2 H67 rfl rfl underlying26 underlying5 rfl rfl (fun w68 H68 => ?_)
   refine Z02 ?_
   refine Z0D (trivial) ?_
   refine Z0K (L' := [Zy,Zy,Zy,Zy,Zy,Zy,Zy,Zz,Zy,Zy,Zy,Zz,Zz]) 5 ZK rfl rfl ?_
   have hpre : IV w68 (.slice (cutA A1 0 c1 1) ((vlW l).length - 0) (c1 - 0)) (bys (vlW l)) := Z2T (T := vlT l (x.tmod 400)) (R := [101] ++ vlE (x.tmod 400)) (List.append_assoc ..) rfl (H68.io mem5)
   refine Z1V H68 rfl rfl underlying26 ti5 rfl rfl rfl (H68.ii mem0) hpre (List.length_pos_iff.1 (show 0 < (bys (vlW l)).length by rw [show (bys (vlW l)).length = (vlW l).length by simp [bys]]; omega)) (by rw [show (bys (vlW l)).length = (vlW l).length by simp [bys]]; omega) (by rw [show (bys (vlW l)).length = (vlW l).length by simp [bys]]; omega) (fun v13_5 w69 H69 => ?_)
   rw [show ([.int .u8 48, .int .u8 48] : List Value) ++ bys (vlW l) = bys ([48, 48] ++ vlW l) from Z1e [48, 48] _] at H69
   refine Z02 ?_
   refine Z0D (trivial) ?_
   refine Z0K (L' := [Zy,Zy,Zy,Zy,Zy,Zy,Zy,Zy,Zy,Zy,Zy,Zz,Zz]) 7 ZK rfl rfl ?_
   refine Z0S H69 rfl rfl underlying26 ti5 rfl rfl rfl (by first | exact H69.io mem0 | exact H69.ii mem1 | exact H69.ibl mem2 | exact H69.ibl mem3 | exact H69.io mem5 | exact H69.io mem6 | exact H69.iarg hv | assumption) (by first | exact Z10 _ _ | exact Z1f _ | simp [Value.oneCell']) (by first | (simp; done) | (simp; omega)) (by first | (simp; done) | (simp; omega)) (fun v13_7 w70 H70 => ?_)
   rw [show bys ([48, 48] ++ vlW l) ++ [.int .u8 46, .int .u8 48, .int .u8 48] = bys ([48, 48] ++ vlW l ++ [46, 48, 48]) from Z1e _ [46, 48, 48]] at H70
   refine Z02 ?_
   refine Z0D (trivial) ?_
   refine Z0K (L' := [Zy,Zy,Zy,Zy,Zy,Zy,Zy,Zy,Zy,Zy,Zy,Zy,Zz]) 11 ZK rfl rfl ?_
   have hpost : IV w70 (.slice (cutA A1 (vlW l).length c1 1) ((vlT l (x.tmod 400)).length - (vlW l).length) (c1 - (vlW l).length)) (bys ([101] ++ vlE (x.tmod 400))) := Z2l (T := vlT l (x.tmod 400)) (W := vlW l) (List.append_assoc ..) rfl (H70.io mem6)
   refine Z0S H70 rfl rfl underlying26 ti5 rfl rfl rfl (by first | exact H70.io mem0 | exact H70.ii mem1 | exact H70.ibl mem2 | exact H70.ibl mem3 | exact H70.io mem5 | exact H70.io mem6 | exact H70.iarg hv | assumption) (by first | exact Z10 _ _ | exact Z1f _ | simp [Value.oneCell']) (by first | (simp; done) | (simp; omega)) (by first | (simp; done) | (simp; omega)) (fun v13_11 w71 H71 => ?_)
   rw [Z1e] at H71
   refine Z02 ?_
   refine Z0D (trivial) ?_
   apply Zu (L' := [Zy,Zy,Zy,Zy,Zy,Zy,Zy,Zy,Zy,Zy,Zy,Zy,Zy]) 12 (trivial)
   ·intro wS sS
    refine Zg (Z02 ?_)
    exact Z0m rfl
   refine Z14 ZK ?_
   have H72 := St.frontL (l := [_, _, _, _]) H71
   simp only [Zca, Zna] at H72
   have H73 := St.frontL (l := [_, _, _, _]) H72
   simp only [Zca, Zna] at H73
   have H74 := St.frontL (l := [_, _]) H73
   simp only [Zca, Zna] at H74
   have H78 := St.del (.tail (.tail (.tail .head))) (St.del (.tail (.tail (.tail (.tail .head)))) (St.del (.tail (.tail (.tail (.tail (.tail .head))))) (St.del (.tail (.tail (.tail (.tail (.tail (.tail .head)))))) H74)))
   refine Z0s (v13_11) ?_ (.cons rfl (.cons rfl (.cons rfl (.cons rfl (.cons rfl (.cons rfl .nil)))))) ?_
   ·exact ⟨H78, rfl⟩
   exact (.cons rfl ZN .nil)
  refine Z17 H42 rfl rfl underlying26 ti5 rfl (.cons rfl ZR (.cons rfl ZR (.cons rfl ZR .nil))) rfl rfl rfl (fun b13_6 w79 H79 => ?_)
  refine Z02 ?_
  refine Z0D (trivial) ?_
  refine Z0K (L' := [Zy,Zz,Zy,Zy,Zy,Zz,Zy,Zz,Zy,Zy,Zy,Zz,Zz]) 0 ZK rfl rfl ?_
  refine Z17 H79 rfl rfl underlying26 ti5 rfl (.cons rfl ZR (.cons rfl ZR .nil)) rfl rfl rfl (fun b13_0 w80 H80 => ?_)
  refine Z02 ?_
  refine Z0D (trivial) ?_
  refine Z0K (L' := [Zy,Zy,Zy,Zy,Zy,Zz,Zy,Zz,Zy,Zy,Zy,Zz,Zz]) 1 ZK rfl rfl ?_
  refine l_mark2 H80 rfl rfl underlying26 underlying5 rfl rfl (fun w81 H81 => ?_)
  refine Z02 ?_
  refine Z0D (trivial) ?_
  refine Z0K (L' := [Zy,Zy,Zy,Zy,Zy,Zy,Zy,Zz,Zy,Zy,Zy,Zz,Zz]) 5 ZK rfl rfl ?_
  have hpre : IV w81 (.slice (cutA A1 0 c1 1) ((vlW l).length - 0) (c1 - 0)) (bys (vlW l)) := Z2T (T := vlT l (x.tmod 400)) (R := [101] ++ vlE (x.tmod 400)) (List.append_assoc ..) rfl (H81.io mem5)
  refine Z1V H81 rfl rfl underlying26 ti5 rfl rfl rfl (H81.ii mem0) hpre (List.length_pos_iff.1 (show 0 < (bys (vlW l)).length by rw [show (bys (vlW l)).length = (vlW l).length by simp [bys]]; omega)) (by rw [show (bys (vlW l)).length = (vlW l).length by simp [bys]]; omega) (by rw [show (bys (vlW l)).length = (vlW l).length by simp [bys]]; omega) (fun v13_5 w82 H82 => ?_)
  rw [show ([.int .u8 48, .int .u8 48] : List Value) ++ bys (vlW l) = bys ([48, 48] ++ vlW l) from Z1e [48, 48] _] at H82
  refine Z02 ?_
  refine Z0D (trivial) ?_
  refine Z0K (L' := [Zy,Zy,Zy,Zy,Zy,Zy,Zy,Zy,Zy,Zy,Zy,Zz,Zz]) 7 ZK rfl rfl ?_
  refine Z0S H82 rfl rfl underlying26 ti5 rfl rfl rfl (by first | exact H82.io mem0 | exact H82.ii mem1 | exact H82.ibl mem2 | exact H82.ibl mem3 | exact H82.io mem5 | exact H82.io mem6 | exact H82.iarg hv | assumption) (by first | exact Z10 _ _ | exact Z1f _ | simp [Value.oneCell']) (by first | (simp; done) | (simp; omega)) (by first | (simp; done) | (simp; omega)) (fun v13_7 w83 H83 => ?_)
  rw [show bys ([48, 48] ++ vlW l) ++ [.int .u8 46, .int .u8 48, .int .u8 48] = bys ([48, 48] ++ vlW l ++ [46, 48, 48]) from Z1e _ [46, 48, 48]] at H83
  refine Z02 ?_
  refine Z0D (trivial) ?_
  refine Z0K (L' := [Zy,Zy,Zy,Zy,Zy,Zy,Zy,Zy,Zy,Zy,Zy,Zy,Zz]) 11 ZK rfl rfl ?_
  have hpost : IV w83 (.slice (cutA A1 (vlW l).length c1 1) ((vlT l (x.tmod 400)).length - (vlW l).length) (c1 - (vlW l).length)) (bys ([101] ++ vlE (x.tmod 400))) := Z2l (T := vlT l (x.tmod 400)) (W := vlW l) (List.append_assoc ..) rfl (H83.io mem6)
  refine Z0S H83 rfl rfl underlying26 ti5 rfl rfl rfl (by first | exact H83.io mem0 | exact H83.ii mem1 | exact H83.ibl mem2 | exact H83.ibl mem3 | exact H83.io mem5 | exact H83.io mem6 | exact H83.iarg hv | assumption) (by first | exact Z10 _ _ | exact Z1f _ | simp [Value.oneCell']) (by first | (simp; done) | (simp; omega)) (by first | (simp; done) | (simp; omega)) (fun v13_11 w84 H84 => ?_)
  rw [Z1e] at H84
  refine Z02 ?_
  refine Z0D (trivial) ?_
  apply Zu (L' := [Zy,Zy,Zy,Zy,Zy,Zy,Zy,Zy,Zy,Zy,Zy,Zy,Zy]) 12 (trivial)
  ·intro wS sS
   refine Zg (Z02 ?_)
   exact Z0m rfl
  refine Z14 ZK ?_
  have H85 := St.frontL (l := [_, _, _, _]) H84
  simp only [Zca, Zna] at H85
  have H86 := St.frontL (l := [_, _, _, _]) H85
  simp only [Zca, Zna] at H86
  have H87 := St.frontL (l := [_, _]) H86
  simp only [Zca, Zna] at H87
  have H91 := St.del (.tail (.tail (.tail .head))) (St.del (.tail (.tail (.tail (.tail .head)))) (St.del (.tail (.tail (.tail (.tail (.tail .head))))) (St.del (.tail (.tail (.tail (.tail (.tail (.tail .head)))))) H87)))
  refine Z0s (v13_11) ?_ (.cons rfl (.cons rfl (.cons rfl (.cons rfl (.cons rfl (.cons rfl .nil)))))) ?_
  ·exact ⟨H91, rfl⟩
  exact (.cons rfl ZN .nil)
 rintro vr w92 ⟨H92, h14⟩
 show RunC P _ _ _ (_ :: _) _
 refine Z03 (Z00 (Zm ?_))
 refine Zm ?_
 refine Zm ?_
 obtain ⟨A3, c3, rfl, hv3⟩ := IB.sl (t := oT3 l (x.tmod 400)) (H92.io mem0)
 have H93 := St.frontL (l := [_, _]) H92
 simp only [Zca, Zna] at H93
 have H94 := St.frontL (l := [_, _]) H93
 simp only [Zca, Zna] at H94
 refine Zc func16 (Z2v b L2 hL2 (9 + n % 2) A3 c3 (oT3 l (x.tmod 400)) ZO w92 (St.rows (τ := cacW b L2) H94) (Z2B (τ := cacW b L2) H94 (A := As.rb 5 (.slice A3 (oT3 l (x.tmod 400)).length c3) (oT3 l (x.tmod 400))) (.head _) (R := fun w1 => IB w1 (.slice A3 (oT3 l (x.tmod 400)).length c3) (oT3 l (x.tmod 400))) (fun w1 h => Own.iv h))) ?_
 rintro _ w95 ⟨bb3, ro3, pl3, e3, L3, o3, rfl, hF3, hNe3, hCa3, hL3, hX⟩
 have H95 := hX _ _ _ _ H94
 simp only [cacW, List.cons_append, List.nil_append] at H95
 refine Zm ?_
 refine Zx (Zx (Zx (Zx (Zg ?_))))
 refine Zg ?_
 refine Zg ?_
 refine Zg (Z02 (Z01 ?_))
 refine Zk [9, 13, 16, 18, 21, 23, 26] ?_
 refine Z03 (Z03 (Z00 ?_))
 obtain ⟨t1, ht1, eb1, ee1⟩ := fl_form hF1 hk (vlT_form l hxb) ZO
 obtain ⟨t2, ht2, eb2, ee2⟩ := fl_form hF2 hk (form2 l hxb hcd) ZO
 obtain ⟨t3, ht3, eb3, ee3⟩ := fl_form hF3 hk (form3 l hxb) ZO
 obtain ⟨ho1, ho2⟩ := order_law hk ht1 ht2 (order_up hcd ht1 ht2)
 have hst := order_same ht1 ht3
 have e31 : bb3 = bb1 := by rw [eb3, eb1, hst]
 have g31 : e3 = e1 := by rw [ee3, ee1, hst]
 have hb1 := RndR.bits ht1
 have hb2 := RndR.bits ht2
 have hbd := d.bd
 refine Zm ?_
 refine Zm ?_
 refine Zo ?_
 refine Z0q (s := 106) (v' := .bool false) rfl (by rw [e31]; simp) ?_
 refine Zm ?_
 refine Zm ?_
 refine Zm ?_
 refine Zo ?_
 refine Z0q (s := 110) (v' := .bool false) rfl (by rw [g31]; simp) ?_
 refine Z1a rfl rfl rfl rfl ?_
 refine Z02 (Z01 ?_)
 refine Zk [9, 13, 16, 18, 21, 111] ?_
 refine Z1D rfl rfl ?_
 refine Z09 (Z01 ?_)
 refine Zk [9, 13, 16, 18, 21] ?_
 refine Z03 (Z03 (Z00 (Zm ?_)))
 refine Z0J rfl rfl func18 rfl rfl (.cons rfl .nil) (Z32 _ _) ?_
 refine Zo ?_
 refine Z02 (Z01 ?_)
 refine Zk [9, 13, 16, 18, 21, 114] ?_
 (first | refine Z08 rfl ?_ ?_ | refine Z05 rfl ?_ ?_) <;> intro hc3
 ·refine Z03 (Z00 (Zm ?_))
  refine Z0J rfl rfl func18 rfl rfl (.cons rfl .nil) (Z32 _ _) ?_
  refine Ze ?_
  refine Zm ?_
  apply Z13 3 [] rfl rfl (.cons rfl .nil) rfl rfl (fun _ => rfl) rfl rfl rfl
  ·intro hg18_4
   refine Zm ?_
   refine Zm ?_
   refine Ze ?_
   refine Z02 ?_
   exact Z0n rfl (.cons rfl (ZT hg18_4) .nil)
  refine Zg (Z02 (Z01 ?_))
  refine Zk [8] ?_
  refine Z0f ?_
  refine Z06 ?_
  refine Z0l results9 rfl ?_
  refine ⟨_, rfl, ?_⟩
  have H98 := St.del .head (St.del (.tail .head) (St.del (.tail (.tail .head)) H95))
  have h1 : ¬ t1.2.2 = 0 := fun h => by rw [if_pos h] at ee1; omega
  have h2 := ho1 h1
  rw [if_neg h1] at ee1
  rw [if_neg h2] at ee2
  exact ⟨congrArg Value.bool (decide_eq_true ⟨ee1, by rw [ee2, ee1]⟩), H98.grows⟩
 refine Z09 (Z01 ?_)
 refine Zk [9, 13, 18, 21] ?_
 refine Z03 (Z03 (Z00 (Zm ?_)))
 refine Z0J rfl rfl func18 rfl rfl (.cons rfl .nil) (Z32 _ _) ?_
 refine Zo ?_
 refine Z02 (Z01 ?_)
 refine Zk [9, 13, 18, 21, 125] ?_
 (first | refine Z08 rfl ?_ ?_ | refine Z05 rfl ?_ ?_) <;> intro hc4
 ·refine Z03 (Z00 (Zm ?_))
  refine Z0J rfl rfl func18 rfl rfl (.cons rfl .nil) (Z32 _ _) ?_
  refine Ze ?_
  refine Zg (Z02 (Z01 ?_))
  refine Zk [8] ?_
  refine Z0f ?_
  refine Z06 ?_
  refine Z0l results9 rfl ?_
  refine ⟨_, rfl, ?_⟩
  have H101 := St.del .head (St.del (.tail .head) (St.del (.tail (.tail .head)) H95))
  have h2 : ¬ t2.2.2 = 0 := fun h => by rw [if_pos h] at ee2; omega
  rw [if_neg h2] at ee2
  exact ⟨congrArg Value.bool (decide_eq_true ee2), H101.grows⟩
 refine Z09 (Z01 ?_)
 refine Zk [9, 13, 18] ?_
 refine Z03 (Z00 ?_)
 have h1 : t1.2.2 = 0 := Classical.not_not.1 fun h => by rw [if_neg h] at ee1; omega
 have h2 : t2.2.2 = 0 := Classical.not_not.1 fun h => by rw [if_neg h] at ee2; omega
 rw [if_pos h1] at eb1
 rw [if_pos h2] at eb2
 have hq := ho2 h1 h2
 rw [← eb1, ← eb2] at hq
 refine Zm ?_
 refine Zm ?_
 refine Zm ?_
 refine Zc func32 (cmpB (9 + n % 2) bb1 bb2 ZO ZO w95) ?_
 rintro _ w102 ⟨rfl, hG⟩
 have H102 := hG _ _ _ _ H95
 simp only [Zca, Zna] at H102
 refine Zm ?_
 refine Zx (Zx (Zg ?_))
 refine Zg (Z02 (Z01 ?_))
 refine Zk [27, 28] ?_
 refine Z03 (Z00 (Zm ?_))
 refine Z0J rfl rfl func18 rfl rfl (.cons rfl .nil) (Z32 _ _) ?_
 refine Ze ?_
 refine Zm ?_
 apply Z13 2 [] rfl rfl (.cons rfl .nil) rfl rfl (fun _ => rfl) rfl rfl rfl
 ·intro hg22_4
  refine Zm ?_
  refine Zf ?_
  refine Z02 ?_
  exact Z0n rfl (.cons rfl (ZT hg22_4) .nil)
 refine Zg (Z02 (Z01 ?_))
 refine Zk [8] ?_
 refine Z0f ?_
 refine Z0l results9 rfl ?_
 refine ⟨_, rfl, ?_⟩
 have H105 := St.del .head (St.del (.tail .head) (St.del (.tail (.tail .head)) H102))
 exact ⟨congrArg Value.bool (decide_eq_true ⟨hq.1, hq.2⟩), H105.grows⟩
end Go.Proofs.YtjcbdogohjafdaaGreat.W
