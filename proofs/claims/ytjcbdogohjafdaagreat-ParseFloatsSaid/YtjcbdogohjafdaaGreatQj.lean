/- law mintagelaw09: closed texts, kind, wakes -/
import Derived.Test.YtjcbdogohjafdaaGreatQg
set_option linter.unusedVariables false
set_option linter.unusedSimpArgs false
set_option maxRecDepth 10000
namespace Go.Proofs.YtjcbdogohjafdaaGreat.W
open Go.Vc Go.RowKit Tryz
theorem IB.sl {w : World} {v : Value} {t : L8} (h : IB w v t) : ∃ A c, v = .slice A t.length c ∧ IB w (.slice A t.length c) t := by
 obtain ⟨A, c, e, h2, h3⟩ := h
 rw [show (bys t).length = t.length from by simp [bys]] at e
 exact ⟨A, c, e, A, c, by rw [show (bys t).length = t.length from by simp [bys]], h2, h3⟩
def rnF (d : Kd) (N D b0 : Int) : Int × Bool × Int := if (if upR d.H N D b0 then b0 + 1 else b0) ≤ d.I - 1 then (if upR d.H N D b0 then b0 + 1 else b0, decide (fv d.H b0 * D = N), 0) else (0, false, 34)
theorem rn_of {d : Kd} {N D b0 : Int} (hD : 0 < D) (h0 : 0 ≤ b0) (h1 : fv d.H b0 * D ≤ N) (h2 : N < fv d.H (b0 + 1) * D) : RndR d.H (d.I - 1) N D (rnF d N D b0) := by
 have hI := d.I_lt
 exact RndR.of (by omega) hD (by omega) hI.2.1 h0 h1 h2
def tbN (d : Kd) (A x : Int) : Int := A * 2 ^ (tbE x).toNat * 2 ^ d.l
def tbD (x : Int) : Int := 2 ^ (-(tbE x)).toNat
theorem tb_of {d : Kd} {A x b0 : Int} (h : 0 ≤ b0 ∧ fv d.H b0 * tbD x ≤ tbN d A x ∧ tbN d A x < fv d.H (b0 + 1) * tbD x) : tabT d A x (rnF d (tbN d A x) (tbD x) b0) := rn_of (Ma.pow_pos (by omega) _) h.1 h.2.1 h.2.2
theorem ag_cl {d : Kd} {man x : Int} {more : Bool} {b1 b2 : Int} (h1 : 0 ≤ b1 ∧ fv d.H b1 * tbD x ≤ tbN d (tbLo x * man) x ∧ tbN d (tbLo x * man) x < fv d.H (b1 + 1) * tbD x) (h2 : 0 ≤ b2 ∧ fv d.H b2 * tbD x ≤ tbN d (tbHi x * mrF man more) x ∧ tbN d (tbHi x * mrF man more) x < fv d.H (b2 + 1) * tbD x)
  (hr : (rnF d (tbN d (tbLo x * man) x) (tbD x) b1).2.2 = (rnF d (tbN d (tbHi x * mrF man more) x) (tbD x) b2).2.2 ∧ (rnF d (tbN d (tbLo x * man) x) (tbD x) b1).1 = (rnF d (tbN d (tbHi x * mrF man more) x) (tbD x) b2).1) : agP d man x more := ⟨_, _, tb_of h1, tb_of h2, hr⟩
theorem nag_cl {d : Kd} {man x : Int} {more : Bool} {b1 b2 : Int} (h1 : 0 ≤ b1 ∧ fv d.H b1 * tbD x ≤ tbN d (tbLo x * man) x ∧ tbN d (tbLo x * man) x < fv d.H (b1 + 1) * tbD x) (h2 : 0 ≤ b2 ∧ fv d.H b2 * tbD x ≤ tbN d (tbHi x * mrF man more) x ∧ tbN d (tbHi x * mrF man more) x < fv d.H (b2 + 1) * tbD x)
  (hr : ¬ ((rnF d (tbN d (tbLo x * man) x) (tbD x) b1).2.2 = (rnF d (tbN d (tbHi x * mrF man more) x) (tbD x) b2).2.2 ∧ (rnF d (tbN d (tbLo x * man) x) (tbD x) b1).1 = (rnF d (tbN d (tbHi x * mrF man more) x) (tbD x) b2).1)) : ¬ agP d man x more := fun h => hr ((agP.iff (tb_of h1) (tb_of h2)).1 h)
theorem fl_wd {t : L8} {k bb road place e wd man x : Int} {d : Kd} {ng more : Bool} (h : FlR t k bb road place e) (hk : kd k = some d) (hs : scanF t = (ng, wd, man, x, more, 0, 0)) (hw : wdP wd man) : bb = spF d ng wd ∧ road = 1 ∧ place = 0 ∧ e = 0 := by
 cases h with
 | kind h2 => rw [hk] at h2; cases h2
 | err h2 hsc he => obtain ⟨_, _, _, _, _, _, h3⟩ := Z2J hsc hs; exact absurd h3 he
 | word h2 hsc _ =>
  obtain ⟨rfl, rfl, _⟩ := Z2J hsc hs
  rw [hk] at h2; cases h2
  exact ⟨rfl, rfl, rfl, rfl⟩
 | num h2 hsc H2 _ _ =>
  obtain ⟨_, rfl, rfl, _⟩ := Z2J hsc hs
  exact absurd hw H2
theorem Z5G {t : L8} {k bb road place e man x x1 n xx b0 : Int} {d : Kd} {ng more : Bool} {W F : L8} (h : FlR t k bb road place e) (hk : kd k = some d) (hs : scanF t = (ng, 0, man, x1, more, 0, 0)) (hm : ¬ man = 0) (hr : Z3G t = (ng, 0, W, F, x, 0, 0)) (hne : ¬ Z0P (W ++ F) = [])
  (hn : pv (Z0P (W ++ F)) = n) (hxx : x - F.length = xx) (hb : 0 ≤ b0 ∧ fv d.H b0 * 10 ^ (-xx).toNat ≤ n * 10 ^ xx.toNat * 2 ^ d.l ∧ n * 10 ^ xx.toNat * 2 ^ d.l < fv d.H (b0 + 1) * 10 ^ (-xx).toNat) {res : Int × Bool × Int} (hres : rnF d (n * 10 ^ xx.toNat * 2 ^ d.l) (10 ^ (-xx).toNat) b0 = res) :
  bb = (if res.2.2 = 0 then sgF d ng res.1 else 0) ∧ road = Z4M d k man x1 more ∧ place = 0 ∧ e = (if res.2.2 = 0 then 0 else 90) := by
 cases h with
 | kind h2 => rw [hk] at h2; cases h2
 | err h2 hsc he => obtain ⟨_, _, _, _, _, _, h3⟩ := Z2J hsc hs; exact absurd h3 he
 | word h2 hsc hw =>
  obtain ⟨_, rfl, rfl, _⟩ := Z2J hsc hs
  unfold wdP at hw
  omega
 | num h2 hsc H2 hx ht =>
  obtain ⟨rfl, rfl, rfl, rfl, rfl, rfl, _⟩ := Z2J hsc hs
  rw [hk] at h2; cases h2
  have hro := Z4R t
  rw [hr] at hro
  obtain ⟨rfl, rfl, _⟩ := hx.unique (ExR.num hro hne)
  rw [hn, hxx] at ht
  have h3 : fltT d n xx res := by rw [← hres]; exact rn_of (Ma.pow_pos ZO _) hb.1 hb.2.1 hb.2.2
  rw [ht.unique h3]
  exact ⟨rfl, rfl, rfl, rfl⟩
theorem wk1 {bb road place e : Int} (h : FlR [45, 48] 10 bb road place e) : bb = 9223372036854775808 ∧ road = 1 ∧ place = 0 ∧ e = 0 := fl_wd (d := .f64) (wd := 0) (man := 0) (x := 0) (more := false) (ng := true) h rfl (by decide +kernel) (by decide)
theorem wk2 {bb road place e : Int} (h : FlR [48, 46, 49] 10 bb road place e) : bb = 4591870180066957722 ∧ road = 2 ∧ place = 0 ∧ e = 0 := by
 have h1 := Z5G (d := .f64) (n := 1) (xx := -1) (b0 := 4591870180066957721) (W := [48]) (F := [49]) (x := 0) (man := 1) (x1 := -1) (more := false) (ng := false) (res := (4591870180066957722, false, 0)) h rfl (by decide +kernel) (by decide) (by decide +kernel) (by decide +kernel) (by decide +kernel) (by decide) (by decide +kernel) (by decide +kernel)
 rw [roadS_2 (by decide)] at h1
 exact h1
theorem wk3 {bb road place e : Int} (h : FlR [49, 101, 50, 51] 10 bb road place e) : bb = 4950912855330343670 ∧ road = 3 ∧ place = 0 ∧ e = 0 := by
 have h1 := Z5G (d := .f64) (n := 1) (xx := 23) (b0 := 4950912855330343670) (W := [49]) (F := []) (x := 23) (man := 1) (x1 := 23) (more := false) (ng := false) (res := (4950912855330343670, false, 0)) h rfl (by decide +kernel) (by decide) (by decide +kernel) (by decide +kernel) (by decide +kernel) (by decide) (by decide +kernel) (by decide +kernel)
 rw [Z5H (by decide) (by decide) (ag_cl (b1 := 4950912855330343670) (b2 := 4950912855330343670) (by decide +kernel) (by decide +kernel) (by decide +kernel))] at h1
 exact h1
theorem wk4 {bb road place e : Int} (h : FlR [57, 48, 48, 55, 49, 57, 57, 50, 53, 52, 55, 52, 48, 57, 57, 50, 46, 57, 57, 57, 57, 57, 57, 57, 57, 57, 57, 57, 57, 57, 57, 57, 57, 57, 57, 57, 57] 10 bb road place e) : bb = 4845873199050653696 ∧ road = 4 ∧ place = 0 ∧ e = 0 := by
 have h1 := Z5G (d := .f64) (n := 900719925474099299999999999999999999) (xx := -20) (b0 := 4845873199050653696) (W := [57, 48, 48, 55, 49, 57, 57, 50, 53, 52, 55, 52, 48, 57, 57, 50]) (F := [57, 57, 57, 57, 57, 57, 57, 57, 57, 57, 57, 57, 57, 57, 57, 57, 57, 57, 57, 57]) (x := 0) (man := 9007199254740992999) (x1 := -3) (more := true) (ng := false) (res := (4845873199050653696, false, 0)) h rfl (by decide +kernel) (by decide) (by decide +kernel) (by decide +kernel) (by decide +kernel) (by decide) (by decide +kernel) (by decide +kernel)
 rw [Z5K (by decide) (fun _ => nag_cl (b1 := 4845873199050653696) (b2 := 4845873199050653696) (by decide +kernel) (by decide +kernel) (by decide +kernel))] at h1
 exact h1
theorem Z32 (x : Int) (w : World) :
  Z0g P 18 [.int .i64 x] w fun r w' => r = .int .i64 x ∧ w = w' := by
 refine Z0o func18 rfl ntmps18 rfl ?_
 refine Z03 (Z00 (Zg (Z02 (Z01 (Z03 (Z00 ?_))))))
 refine Zm ?_
 refine Zg (Z02 (Z01 ?_))
 refine Z0f ?_
 refine Z0l results18 rfl ?_
 refine ⟨_, rfl, ?_⟩
 exact ⟨rfl, rfl⟩
theorem kindL9 (n : Int) (w : World) :
  Z0g P 15 [.int .i64 n] w fun r w' => ∃ k, r = .int .i64 k ∧ w = w' := by
 refine Z0o func15 rfl ntmps15 rfl ?_
 refine Z03 (Z00 (Zg (Z02 (Z01 (Z03 (Z03 (Z00 ?_)))))))
 refine Zm ?_
 refine Z1d rfl rfl rfl rfl rfl (rfl) ?_
 refine Ze ?_
 refine Z02 (Z01 ?_)
 (first | refine Z08 rfl ?_ ?_ | refine Z05 rfl ?_ ?_) <;> intro hc0
 ·refine Z03 (Z00 (Zm ?_))
  refine Z1O rfl rfl rfl rfl ZO (Z1p (d := 32) (by decide) (by decide)) ?_
  refine Zg (Z02 (Z01 ?_))
  refine Zk [2] ?_
  refine Z0f ?_
  refine Z06 ?_
  refine Z0l results15 rfl ?_
  refine ⟨_, rfl, ?_⟩
  exact ⟨_, rfl, rfl⟩
 refine Z09 (Z01 (Z03 (Z00 (Zm ?_))))
 refine Z1d rfl rfl rfl rfl rfl (rfl) ?_
 refine Z0t rfl rfl rfl rfl (rfl) ?_
 refine Zg (Z02 (Z01 ?_))
 refine Z0f ?_
 refine Z0l results15 rfl ?_
 refine ⟨_, rfl, ?_⟩
 exact ⟨_, rfl, rfl⟩
theorem Z4m  (w : World) :
  Z0g P 12 [] w fun r w' => r = .bool true ∧ Grow w w' [] := by
 refine Z0o func12 rfl ntmps12 rfl ?_
 have H0 := St.start w
 refine Z03 (Z00 (Zg (Z02 (Z01 (Z03 (Z00 ?_))))))
 refine Zc func11 (newC w) ?_
 rintro _ w1 ⟨b, rfl, hG⟩
 have H1 := hG _ _ _ _ H0
 simp only [Zca, Zna] at H1
 refine Zg (Z02 (Z01 (Z03 (Z03 (Z00 ?_)))))
 refine Zm ?_
 refine l_eqlp ZK rfl rfl rfl rfl ?_
 refine Z0q (s := 21) (v' := .bool false) rfl (by rfl) ?_
 refine Z02 (Z01 ?_)
 refine Zk [1, 21] ?_
 refine Z1D rfl rfl ?_
 refine Z09 (Z01 (Z03 (Z00 (Zm ?_))))
 refine Z17 H1 rfl rfl underlying26 ti5 rfl (.cons rfl ZR (.cons rfl ZR .nil)) rfl rfl rfl (fun b4_1 w2 H2 => ?_)
 refine Z5I H2 rfl rfl underlying26 underlying5 rfl rfl (fun v4_2 w3 H3 => ?_)
 obtain ⟨A1, c1, rfl, hv1⟩ := IB.sl (t := [45, 48]) (H3.ii mem0)
 have H4 := St.frontL (l := [_, _]) H3
 simp only [Zca, Zna] at H4
 have H5 := St.frontL (l := [_, _]) H4
 simp only [Zca, Zna] at H5
 refine Z0N rfl rfl func16 rfl rfl (.cons rfl (.cons rfl (.cons rfl .nil))) (Z2v b (List.replicate 41 none) (List.length_replicate ..) (10) A1 c1 [45, 48] (by decide) w3 (St.rows (τ := cacW b (List.replicate 41 none)) H5) (Z2B (τ := cacW b (List.replicate 41 none)) H5 (A := As.iv _ _) (.head _) (R := fun w1 => IB w1 _ [45, 48]) (fun w1 h => h))) ?_
 rintro _ w6 ⟨bb1, ro1, pl1, e1, L1, o1, rfl, hF1, hNe1, hCa1, hL1, hX⟩
 have H6 := hX _ _ _ _ H5
 simp only [cacW, List.cons_append, List.nil_append] at H6
 obtain ⟨rfl, rfl, rfl, rfl⟩ := wk1 hF1
 refine Zm ?_
 refine Zx (Zx (Zx (Zx (Zg ?_))))
 refine Zg ?_
 refine Zg ?_
 refine Zg (Z02 (Z01 (Z03 (Z00 ?_))))
 refine Zm ?_
 refine Z17 H6 rfl rfl underlying26 ti5 rfl (.cons rfl ZR (.cons rfl ZR (.cons rfl ZR .nil))) rfl rfl rfl (fun b5_1 w7 H7 => ?_)
 refine Z5I H7 rfl rfl underlying26 underlying5 rfl rfl (fun v5_2 w8 H8 => ?_)
 obtain ⟨A2, c2, rfl, hv2⟩ := IB.sl (t := [48, 46, 49]) (H8.ii mem0)
 have H9 := St.frontL (l := [_, _]) H8
 simp only [Zca, Zna] at H9
 have H10 := St.frontL (l := [_, _]) H9
 simp only [Zca, Zna] at H10
 refine Z0N rfl rfl func16 rfl rfl (.cons rfl (.cons rfl (.cons rfl .nil))) (Z2v b L1 hL1 (10) A2 c2 [48, 46, 49] (by decide) w8 (St.rows (τ := cacW b L1) H10) (Z2B (τ := cacW b L1) H10 (A := As.iv _ _) (.head _) (R := fun w1 => IB w1 _ [48, 46, 49]) (fun w1 h => h))) ?_
 rintro _ w11 ⟨bb2, ro2, pl2, e2, L2, o2, rfl, hF2, hNe2, hCa2, hL2, hX⟩
 have H11 := hX _ _ _ _ H10
 simp only [cacW, List.cons_append, List.nil_append] at H11
 obtain ⟨rfl, rfl, rfl, rfl⟩ := wk2 hF2
 refine Zm ?_
 refine Zx (Zx (Zx (Zx (Zg ?_))))
 refine Zg ?_
 refine Zg ?_
 refine Zg (Z02 (Z01 ?_))
 refine Zk [1, 2, 3, 5, 6, 7, 9] ?_
 refine Z03 (Z00 (Zm ?_))
 refine Z17 H11 rfl rfl underlying26 ti5 rfl (.cons rfl ZR (.cons rfl ZR (.cons rfl ZR (.cons rfl ZR .nil)))) rfl rfl rfl (fun b6_1 w12 H12 => ?_)
 refine Z5I H12 rfl rfl underlying26 underlying5 rfl rfl (fun v6_2 w13 H13 => ?_)
 obtain ⟨A3, c3, rfl, hv3⟩ := IB.sl (t := [49, 101, 50, 51]) (H13.ii mem0)
 have H14 := St.frontL (l := [_, _]) H13
 simp only [Zca, Zna] at H14
 have H15 := St.frontL (l := [_, _]) H14
 simp only [Zca, Zna] at H15
 refine Z0N rfl rfl func16 rfl rfl (.cons rfl (.cons rfl (.cons rfl .nil))) (Z2v b L2 hL2 (10) A3 c3 [49, 101, 50, 51] (by decide) w13 (St.rows (τ := cacW b L2) H15) (Z2B (τ := cacW b L2) H15 (A := As.iv _ _) (.head _) (R := fun w1 => IB w1 _ [49, 101, 50, 51]) (fun w1 h => h))) ?_
 rintro _ w16 ⟨bb3, ro3, pl3, e3, L3, o3, rfl, hF3, hNe3, hCa3, hL3, hX⟩
 have H16 := hX _ _ _ _ H15
 simp only [cacW, List.cons_append, List.nil_append] at H16
 obtain ⟨rfl, rfl, rfl, rfl⟩ := wk3 hF3
 refine Zm ?_
 refine Zx (Zx (Zx (Zx (Zg ?_))))
 refine Zg ?_
 refine Zg ?_
 refine Zg (Z02 (Z01 (Z03 (Z00 ?_))))
 refine Zm ?_
 refine Z17 H16 rfl rfl underlying26 ti5 rfl (.cons rfl ZR (.cons rfl ZR (.cons rfl ZR (.cons rfl ZR (.cons rfl ZR (.cons rfl ZR (.cons rfl ZR (.cons rfl ZR (.cons rfl ZR (.cons rfl ZR (.cons rfl ZR (.cons rfl ZR (.cons rfl ZR (.cons rfl ZR (.cons rfl ZR (.cons rfl ZR (.cons rfl ZR (.cons rfl ZR (.cons rfl ZR (.cons rfl ZR (.cons rfl ZR (.cons rfl ZR (.cons rfl ZR (.cons rfl ZR (.cons rfl ZR (.cons rfl ZR (.cons rfl ZR (.cons rfl ZR (.cons rfl ZR (.cons rfl ZR (.cons rfl ZR (.cons rfl ZR (.cons rfl ZR (.cons rfl ZR (.cons rfl ZR (.cons rfl ZR (.cons rfl ZR .nil))))))))))))))))))))))))))))))))))))) rfl rfl rfl (fun b7_1 w17 H17 => ?_)
 refine Z5I H17 rfl rfl underlying26 underlying5 rfl rfl (fun v7_2 w18 H18 => ?_)
 obtain ⟨A4, c4, rfl, hv4⟩ := IB.sl (t := [57, 48, 48, 55, 49, 57, 57, 50, 53, 52, 55, 52, 48, 57, 57, 50, 46, 57, 57, 57, 57, 57, 57, 57, 57, 57, 57, 57, 57, 57, 57, 57, 57, 57, 57, 57, 57]) (H18.ii mem0)
 have H19 := St.frontL (l := [_, _]) H18
 simp only [Zca, Zna] at H19
 have H20 := St.frontL (l := [_, _]) H19
 simp only [Zca, Zna] at H20
 refine Z0N rfl rfl func16 rfl rfl (.cons rfl (.cons rfl (.cons rfl .nil))) (Z2v b L3 hL3 (10) A4 c4 [57, 48, 48, 55, 49, 57, 57, 50, 53, 52, 55, 52, 48, 57, 57, 50, 46, 57, 57, 57, 57, 57, 57, 57, 57, 57, 57, 57, 57, 57, 57, 57, 57, 57, 57, 57, 57] (by decide) w18 (St.rows (τ := cacW b L3) H20) (Z2B (τ := cacW b L3) H20 (A := As.iv _ _) (.head _) (R := fun w1 => IB w1 _ [57, 48, 48, 55, 49, 57, 57, 50, 53, 52, 55, 52, 48, 57, 57, 50, 46, 57, 57, 57, 57, 57, 57, 57, 57, 57, 57, 57, 57, 57, 57, 57, 57, 57, 57, 57, 57]) (fun w1 h => h))) ?_
 rintro _ w21 ⟨bb4, ro4, pl4, e4, L4, o4, rfl, hF4, hNe4, hCa4, hL4, hX⟩
 have H21 := hX _ _ _ _ H20
 simp only [cacW, List.cons_append, List.nil_append] at H21
 obtain ⟨rfl, rfl, rfl, rfl⟩ := wk4 hF4
 refine Zm ?_
 refine Zx (Zx (Zx (Zx (Zg ?_))))
 refine Zg ?_
 refine Zg ?_
 refine Zg (Z02 (Z01 (Z03 (Z00 ?_))))
 refine Zm ?_
 refine Ze ?_
 refine Z0q (s := 59) (v' := .bool true) rfl (by simp) ?_
 refine Zm ?_
 refine Zm ?_
 refine Ze ?_
 refine Z0q (s := 62) (v' := .bool true) rfl (by simp) ?_
 refine Z0Y rfl rfl rfl rfl ?_
 refine Zm ?_
 refine Zm ?_
 refine Ze ?_
 refine Z0q (s := 66) (v' := .bool true) rfl (by simp) ?_
 refine Z0Y rfl rfl rfl rfl ?_
 refine Zm ?_
 refine Zm ?_
 refine Ze ?_
 refine Z0q (s := 70) (v' := .bool true) rfl (by simp) ?_
 refine Z0Y rfl rfl rfl rfl ?_
 refine Zg (Z02 (Z01 ?_))
 refine Zk [3, 5, 7, 9, 11, 13, 15, 17, 18] ?_
 refine Z03 (Z00 (Zm ?_))
 refine Zm ?_
 refine Zm ?_
 refine Ze ?_
 refine Z0q (s := 75) (v' := .bool true) rfl (by simp) ?_
 refine Z0Y rfl rfl rfl rfl ?_
 refine Zm ?_
 refine Zm ?_
 refine Ze ?_
 refine Z0q (s := 79) (v' := .bool true) rfl (by simp) ?_
 refine Z0Y rfl rfl rfl rfl ?_
 refine Zm ?_
 refine Zm ?_
 refine Ze ?_
 refine Z0q (s := 83) (v' := .bool true) rfl (by simp) ?_
 refine Z0Y rfl rfl rfl rfl ?_
 refine Zm ?_
 refine Zm ?_
 refine Ze ?_
 refine Z0q (s := 87) (v' := .bool true) rfl (by simp) ?_
 refine Z0Y rfl rfl rfl rfl ?_
 refine Zm ?_
 refine Zm ?_
 refine Z0J rfl rfl func18 rfl rfl (.cons rfl .nil) (Z32 _ _) ?_
 refine Ze ?_
 refine Z0q (s := 92) (v' := .bool true) rfl (by simp) ?_
 refine Z0Y rfl rfl rfl rfl ?_
 refine Zm ?_
 refine Zm ?_
 refine Z0J rfl rfl func18 rfl rfl (.cons rfl .nil) (Z32 _ _) ?_
 refine Ze ?_
 refine Z0q (s := 97) (v' := .bool true) rfl (by simp) ?_
 refine Z0Y rfl rfl rfl rfl ?_
 refine Zm ?_
 refine Zm ?_
 refine Z0J rfl rfl func18 rfl rfl (.cons rfl .nil) (Z32 _ _) ?_
 refine Ze ?_
 refine Z0q (s := 102) (v' := .bool true) rfl (by simp) ?_
 refine Z0Y rfl rfl rfl rfl ?_
 refine Zm ?_
 refine Zm ?_
 refine Z0J rfl rfl func18 rfl rfl (.cons rfl .nil) (Z32 _ _) ?_
 refine Ze ?_
 refine Z0q (s := 107) (v' := .bool true) rfl (by simp) ?_
 refine Z0Y rfl rfl rfl rfl ?_
 refine Zg (Z02 (Z01 ?_))
 refine Z0f ?_
 refine Z0l results12 rfl ?_
 refine ⟨_, rfl, ?_⟩
 have H27 := St.del .head (St.del (.tail .head) (St.del (.tail (.tail .head)) (St.del (.tail (.tail (.tail .head))) (St.del (.tail (.tail (.tail (.tail .head)))) (St.del (.tail (.tail (.tail (.tail (.tail .head))))) H21)))))
 exact ⟨rfl, H27.grows⟩
section
variable {P : Program} {w0 w w' w1 : World} {B : Nat} {M : Nat → Prop} {σ τ : List As}
end
section
open Go.ChangeShapes Go.WideShapes Go.ChangeAt Go.RowKit
end
theorem IB.takeS {w : World} {A : Option Addr} {l : L8} {c n : Nat} (h : IB w (.slice A l.length c) l) {c' : Nat} (hc : (l.take n).length ≤ c') : IB w (.slice A (l.take n).length c') (l.take n) := by
 obtain ⟨A1, c1, e, h2, h3⟩ := h
 injection e with e1 e2 e3
 subst e1
 refine ⟨A, c', by simp [bys], by simpa [bys] using hc, fun j v hj => h3 j v ?_⟩
 rw [show bys (l.take n) = (bys l).take n by simp [bys, List.map_take]] at hj
 rw [List.getElem?_take] at hj
 split at hj
 ·exact hj
 cases hj
theorem cutT (A : Option Addr) (c : Nat) (l : L8) (n : Nat) (hc : l.length ≤ c) (w : World) (hv : IB w (.slice A l.length c) l) :
  Z0g P 13 [.slice A l.length c, .int .i64 (n : Int)] w fun r w' => (∃ c', r = .slice A (l.take n).length c' ∧ (l.take n).length ≤ c') ∧ w = w' := by
 refine Z0o func13 rfl ntmps13 rfl ?_
 refine Z03 (Z00 (Zg (Z02 (Z01 (Z03 (Z03 (Z00 ?_)))))))
 refine Zm ?_
 refine Z0I rfl rfl underlying26 rfl (by first | exact hv | assumption) ?_
 refine Zm ?_
 refine Zw ?_
 refine Z02 (Z01 ?_)
 (first | refine Z08 rfl ?_ ?_ | refine Z05 rfl ?_ ?_) <;> intro hc0
 ·refine Z03 (Z00 (Zm ?_))
  refine Zm ?_
  refine v_head (h := n) rfl rfl underlying26 tz5 rfl rfl (by first | exact hv | assumption) ZP ZI (fun A2_2 c2_2 h2_2 => ?_)
  injection h2_2 with g1 g2 g3
  subst g1 g3
  refine Zg (Z02 (Z01 ?_))
  refine Zk [4] ?_
  refine Z0f ?_
  refine Z06 ?_
  refine Z0l results13 rfl ?_
  refine ⟨_, rfl, ?_⟩
  have e : (l.take n).length = n := by rw [List.length_take]; omega
  exact ⟨⟨_, by rw [e], ZO⟩, rfl⟩
 refine Z09 (Z01 (Z03 (Z00 (Zm ?_))))
 refine Zg (Z02 (Z01 ?_))
 refine Z0f ?_
 refine Z0l results13 rfl ?_
 refine ⟨_, rfl, ?_⟩
 have e : (l.take n).length = l.length := by rw [List.length_take]; omega
 exact ⟨⟨_, by rw [e], ZO⟩, rfl⟩
theorem parseFloatsL (n : Int) (hn : -9223372036854775808 ≤ n ∧ n ≤ 9223372036854775807) (v : Value) (cs : List Value) (w : World) (hv : IV w v cs) (hcs : ∀ (i : Nat) x, cs[i]? = some x → ∃ l, IB w x l) :
  Z0g P 3 [.int .i64 n, v] w fun r w' => r = .bool true ∧ Grow w w' [] := by
 refine Z0o func3 rfl ntmps3 rfl ?_
 have H0 := St.start w
 refine Z03 (Z00 (Zg (Z02 (Z01 (Z03 (Z00 ?_))))))
 refine Zc func11 (newC w) ?_
 rintro _ w1 ⟨b, rfl, hG⟩
 have H1 := hG _ _ _ _ H0
 simp only [Zca, Zna] at H1
 refine Zg (Z02 (Z01 (Z03 (Z03 (Z00 ?_)))))
 refine Zm ?_
 refine l_eqlp ZK rfl rfl rfl rfl ?_
 refine Z0q (s := 20) (v' := .bool false) rfl (by rfl) ?_
 refine Zm ?_
 refine Zc func12 (Z4m w1) ?_
 rintro _ w2 ⟨rfl, hG⟩
 have H2 := hG _ _ _ _ H1
 simp only [Zca, Zna] at H2
 first | refine Z1c rfl rfl rfl ?_ | refine Z1N rfl rfl rfl ?_
 refine Z0q (s := 23) (v' := .bool false) rfl (by rfl) ?_
 refine Z1a rfl rfl rfl rfl ?_
 refine Z02 (Z01 ?_)
 refine Zk [0, 1, 5, 24] ?_
 refine Z1D rfl rfl ?_
 refine Z09 (Z01 (Z03 (Z03 (Z00 (Zg (Z02 (Z01 (Z0c ?_))))))))
 refine Z0v (ι := Nat × Cac) (fun (z0 : Nat × Cac) => match z0 with | ⟨i, L1⟩ => 12 - i) (fun (z0 : Nat × Cac) (w' : World) => match z0 with | ⟨i, L1⟩ => St w w.heap.size Z0B (cacW b L1) w' ∧ i ≤ 12 ∧ L1.length = 41) (fun (z0 : Nat × Cac) => match z0 with | ⟨i, L1⟩ => [(6, .int .i64 (i : Int))]) [0, 1, 5] (0, (List.replicate 41 none)) ?_ (.cons rfl (.cons rfl (.cons rfl .nil))) ?_ ?_
 ·exact ⟨H2, ZO, (List.length_replicate ..)⟩
 ·exact (.cons rfl ZN .nil)
 rintro ⟨i, L1⟩ w3 ⟨H3, hi, hL1⟩
 show RunC P _ _ _ (_ :: _) _
 refine Z03 (Z03 (Z00 (Zm ?_)))
 refine Zm ?_
 refine v_len rfl rfl underlying22 rfl (by first | exact H3.ibl mem0 | exact H3.iarg hv | assumption) ?_
 refine Zl ?_
 refine Zm ?_
 apply Z13 2 [0, 1, 5, 6] rfl rfl (.cons rfl (.cons rfl (.cons rfl (.cons rfl (.cons rfl .nil))))) rfl rfl (fun _ => rfl) rfl rfl rfl
 ·intro hg5_5
  refine Zm ?_
  refine Zl ?_
  refine Z02 ?_
  exact Z0n rfl (.cons rfl (ZT hg5_5) (.cons rfl rfl (.cons rfl rfl (.cons rfl rfl (.cons rfl rfl .nil)))))
 refine Z02 (Z01 ?_)
 (first | refine Z08 rfl ?_ ?_ | refine Z05 rfl ?_ ?_) <;> intro hc1
 ·refine Z09 (Z01 ?_)
  refine Zk [0, 1, 5, 6] ?_
  refine Z03 (Z0c (Z03 (Z00 ?_)))
  obtain ⟨x, hx⟩ : ∃ x, cs[i]? = some x := ⟨_, List.getElem?_eq_getElem ZO⟩
  obtain ⟨l, hxl⟩ := hcs i x hx
  obtain ⟨A0, c0, rfl, hxl⟩ := IB.sl hxl
  have hc0' : l.length ≤ c0 := by
   obtain ⟨_, _, e, h2, _⟩ := hxl
   injection e with _ _ e3
   rw [e3]
   simpa [bys] using h2
  refine Zm ?_
  refine Zm ?_
  refine v_get rfl rfl rfl rfl underlying22 tz26 underlying26 rfl rfl rfl (by first | exact H3.ibl mem0 | exact H3.iarg hv | assumption) ZI hx ?_ rfl
  refine Zc func13 (cutT A0 c0 l 1100 hc0' w3 (H3.iarg hxl)) ?_
  rintro _ _ ⟨⟨c1, rfl, hc1⟩, rfl⟩
  have hv1 := IB.takeS (n := 1100) hxl hc1
  have lt1 : (l.take 1100).length ≤ 1100 := by rw [List.length_take]; omega
  generalize l.take 1100 = t at hv1 lt1 hc1 ⊢
  refine Zg (Z02 (Z01 (Z03 (Z00 ?_))))
  refine Zm ?_
  refine Z0N rfl rfl func14 rfl rfl (.cons rfl .nil) (lendB _ t ZO w3 (H3.iarg hv1)) ?_
  rintro _ w4 ⟨A, c, rfl, hG⟩
  have H4 := hG _ _ _ _ H3
  simp only [Zca, Zna] at H4
  obtain ⟨ad, rfl⟩ := someB_ok (H4.ok mem0)
  refine Zg (Z02 (Z01 (Z03 (Z00 ?_))))
  refine Zm ?_
  refine Zm ?_
  refine Z0t rfl rfl rfl rfl (rfl) ?_
  refine Zc func15 (kindL9 (_) w4) ?_
  rintro _ _ ⟨k, rfl, rfl⟩
  refine Zg (Z02 (Z01 ?_))
  refine Zk [0, 1, 5, 6, 7, 8, 9] ?_
  refine Z03 (Z00 (Zm ?_))
  refine Zm ?_
  refine Zm ?_
  have H5 := St.frontL (l := [_, _]) H4
  simp only [Zca, Zna] at H5
  have H6 := St.frontL (l := [_, _]) H5
  simp only [Zca, Zna] at H6
  refine Zc func16 (Z2v b L1 hL1 (k) (some ad) c t ZO w4 (St.rows (τ := cacW b L1) H6) (Z2B (τ := cacW b L1) H6 (A := As.rb 5 (.slice (some ad) (t.length + 2) c) (t ++ [165, 90])) (.head _) (R := fun w1 => IB w1 (.slice (some ad) t.length c) t) (fun w1 h => headB_ok h))) ?_
  rintro _ w7 ⟨bbx, rox, plx, ex, Lx, ox, rfl, hFx, hNex, hCax, hLx, hX⟩
  have H7 := hX _ _ _ _ H6
  simp only [cacW, List.cons_append, List.nil_append] at H7
  refine Zm ?_
  refine Zx (Zx (Zx (Zx (Zg ?_))))
  refine Zg ?_
  refine Zg ?_
  refine Zg (Z02 (Z01 (Z03 (Z00 ?_))))
  refine Zm ?_
  refine Zm ?_
  refine Z0N rfl rfl func17 rfl rfl (.cons rfl (.cons rfl .nil)) (float9 k _ t ZO w7 (H7.iarg hv1)) ?_
  rintro _ w8 ⟨bb2, ro2, pl2, e2, rfl, hF2, hG⟩
  have H8 := hG _ _ _ _ H7
  simp only [Zca, Zna] at H8
  obtain ⟨rfl, rfl, rfl, rfl⟩ := hFx.unique hF2
  refine Zm ?_
  refine Zx (Zx (Zx (Zx (Zg ?_))))
  refine Zg ?_
  refine Zg ?_
  refine Zg (Z02 (Z01 (Z03 (Z00 ?_))))
  refine Zm ?_
  refine Zm ?_
  refine Zo ?_
  refine Z0q (s := 65) (v' := .bool false) rfl (by simp) ?_
  refine Zm ?_
  refine Zm ?_
  refine Zm ?_
  refine Zo ?_
  refine Z0q (s := 69) (v' := .bool false) rfl (by simp) ?_
  refine Z1a rfl rfl rfl rfl ?_
  refine Zm ?_
  refine Zm ?_
  refine Zm ?_
  refine Zo ?_
  refine Z0q (s := 74) (v' := .bool false) rfl (by simp) ?_
  refine Z1a rfl rfl rfl rfl ?_
  refine Zm ?_
  refine Zm ?_
  refine Z0J rfl rfl func18 rfl rfl (.cons rfl .nil) (Z32 _ _) ?_
  refine Zm ?_
  refine Zo ?_
  refine Z0q (s := 80) (v' := .bool false) rfl (by simp) ?_
  refine Z1a rfl rfl rfl rfl ?_
  refine Zm ?_
  refine Zm ?_
  refine Zm ?_
  refine Zc func19 (backB ad c (.slice A0 t.length c1) t ZO w8 (H8.ok mem2) (H8.rowlt mem2) (H8.keepsArg mem2 hv1)) ?_
  rintro _ w9 ⟨rfl, lo, hT⟩
  have H9 := hT _ _ _ _ _ (.tail (.tail .head)) H8
  first | refine Z1c rfl rfl rfl ?_ | refine Z1N rfl rfl rfl ?_
  refine Z0q (s := 86) (v' := .bool false) rfl (by rfl) ?_
  refine Z1a rfl rfl rfl rfl ?_
  refine Z02 (Z01 ?_)
  refine Zk [0, 1, 5, 6, 87] ?_
  refine Z1D rfl rfl ?_
  refine Z09 ?_
  refine Z0z ?_
  refine Z01 (Z00 (Zm ?_))
  refine Z0t rfl rfl rfl rfl (Z0h ZO) ?_
  refine Zg (Z02 ?_)
  have H10 := St.del (.tail (.tail .head)) H9
  refine Z0j (i := (i, L1)) (i + 1, Lx) ?_ ?_ (.cons rfl (.cons rfl (.cons rfl .nil))) ?_
  ·first | omega | (simp; omega)
  ·exact ⟨H10, ZO, hLx⟩
  exact (.cons rfl ZN .nil)
 refine Z0y ?_
 refine Z04 ?_
 refine Z04 ?_
 refine Z0d ?_
 refine Z01 (Z03 (Z00 (Zg (Z02 (Z01 ?_)))))
 refine Z0f ?_
 refine Z0l results3 rfl ?_
 refine ⟨_, rfl, ?_⟩
 have H12 := St.del .head (St.del (.tail .head) H3)
 exact ⟨rfl, H12.grows⟩
theorem Z1h.exists (t : L8) : ∃ ng wd man x more p e, Z1h t ng wd man x more p e := by
 have hr := Z4R t
 generalize Z3G t = z at hr
 obtain ⟨ng, wd, W, F, x, p, e⟩ := z
 dsimp only at hr
 by_cases he : e = 0
 ·subst he
  by_cases hn : ¬ wd = 0 ∨ Z0P (W ++ F) = []
  ·exact ⟨_, _, _, _, _, _, _, .nil hr hn⟩
  have hw : wd = 0 := Classical.not_not.1 fun h => hn (.inl h)
  subst hw
  exact ⟨_, _, _, _, _, _, _, .num hr (fun h => hn (.inr h)) rfl⟩
 exact ⟨_, _, _, _, _, _, _, .err hr he⟩
theorem Z1W.exists (t : L8) (k : Int) : ∃ o, Z1W t k o := by
 obtain ⟨ng, wd, man, x, more, p, e, hs⟩ := Z1h.exists t
 cases hk : kd k with
 | none => exact ⟨none, .kind hk⟩
 | some d =>
  by_cases he : e = 0
  ·subst he
   by_cases hw : wdP wd man
   ·exact ⟨none, .word hk hs hw⟩
   by_cases hh : shP k man x more
   ·exact ⟨none, .short hk hs hw hh⟩
   by_cases hx : inQ x
   ·exact ⟨some x, .ask hk hs hw hh hx⟩
   exact ⟨none, .far hk hs hw hh hx⟩
  exact ⟨none, .err hk hs he⟩
theorem Z1W.in {t : L8} {k q : Int} (h : Z1W t k (some q)) : inQ q := by
 cases h with
 | ask _ _ _ _ hx => exact hx
theorem Z1h.any {t : L8} {ng more : Bool} {wd man x p e : Int} (h : Z1h t ng wd man x more p e) : 0 ≤ man ∧ man ≤ 18446744073709551615 ∧ -110000 ≤ x ∧ x ≤ 110000 := by
 by_cases he : e = 0
 ·subst he; exact h.bds
 cases h with
 | err _ _ => omega
 | nil _ _ => exact absurd rfl he
 | num _ _ _ => exact absurd rfl he
def Sgn (z : L8) (neg : Bool) : Prop := (z = [] ∧ neg = false) ∨ (z = [43] ∧ neg = false) ∨ (z = [45] ∧ neg = true)
theorem dig_nosgn : ∀ c : UInt8, isd c = true → sgn c = false := all8 (by decide +kernel)
theorem run_app {W R : L8} (hW : ∀ c ∈ W, isD c) (hR : R = [] ∨ isd (R.getD 0 0) = false) : run (W ++ R) = W.length := by
 refine Z4j _ _ (fun j hj => ?_) (by simp) (fun h => ?_)
 ·have : (W ++ R).getD j 0 = W.getD j 0 := by simp [List.getD, List.getElem?_append_left hj]
  rw [this]; exact hW _ (Z2K hj)
 have e : (W ++ R).getD W.length 0 = R.getD 0 0 := by
  unfold List.getD
  rw [List.getElem?_append_right (Nat.le_refl _), Nat.sub_self]
 rw [e, Z2E]
 rcases hR with rfl | hR
 ·simp at h
 rw [hR]; decide
theorem sg_app {z r : L8} {neg : Bool} (hz : Sgn z neg) (hr : r = [] ∨ sgn (r.getD 0 0) = false) : sg (z ++ r) 0 = z.length ∧ ngb (z ++ r) = neg := by
 rcases hz with ⟨rfl, rfl⟩ | ⟨rfl, rfl⟩ | ⟨rfl, rfl⟩
 ·have h1 : ¬ (0 < r.length ∧ sgP r 0) := fun h => by
   rcases hr with rfl | hr
   ·simp at h
   have := (Z4f r 0).1 h.2; rw [hr] at this; cases this
  refine ⟨Z51 h1, ?_⟩
  unfold ngb
  rw [decide_eq_false_iff_not]
  intro e
  rcases hr with rfl | hr
  ·simp at e
  have e2 : r.getD 0 0 = 45 := (Z1R (d := 45)).1 e
  simp only [List.nil_append] at e
  rw [e2] at hr
  cases hr
 ·refine ⟨Z2F (by simp) (.inl rfl), ?_⟩
  show decide (((43 : UInt8).toNat : Int) = 45) = false
  decide
 refine ⟨Z2F (by simp) (.inr rfl), ?_⟩
 show decide (((45 : UInt8).toNat : Int) = 45) = true
 decide
structure Form (s : L8) (neg : Bool) (W F : L8) (x : Int) : Prop where
 ex : ∃ z pt ex : L8, Sgn z neg ∧ (∀ c ∈ W, isD c) ∧ (∀ c ∈ F, isD c) ∧ (W ≠ [] ∨ F ≠ []) ∧ ((pt = [] ∧ F = []) ∨ pt = [46]) ∧
  ((ex = [] ∧ x = 0) ∨ ∃ (c : UInt8) (zE E : L8) (en : Bool), ex = c :: (zE ++ E) ∧ (c = 101 ∨ c = 69) ∧ Sgn zE en ∧ (∀ d ∈ E, isD d) ∧ E ≠ [] ∧ x = expS en E) ∧ s = z ++ (W ++ (pt ++ (F ++ ex)))
theorem ne_getD {W R : L8} (h : W ≠ []) : (W ++ R).getD 0 0 = W.getD 0 0 := by
 cases W with
 | nil => exact absurd rfl h
 | cons c W => rfl
theorem Form.rc {s : L8} {neg : Bool} {W F : L8} {x : Int} (h : Form s neg W F x) : ∃ en E, RC s neg 0 W F en E true ∧ x = expS en E := by
 obtain ⟨z, pt, ex, hz, hW, hF, hne, hpt, hex, rfl⟩ := h.ex
 have hex0 : ex = [] ∨ (isd (ex.getD 0 0) = false ∧ ¬ ex.getD 0 0 = 46) := by
  rcases hex with ⟨rfl, _⟩ | ⟨c, zE, E, en, rfl, hc, _⟩
  ·exact .inl rfl
  right
  rcases hc with rfl | rfl
  ·exact ⟨show isd (101 : UInt8) = false from by decide, show ¬ (101 : UInt8) = 46 from by decide⟩
  exact ⟨show isd (69 : UInt8) = false from by decide, show ¬ (69 : UInt8) = 46 from by decide⟩
 -- what follows the digits ahead
 have hR0 : pt ++ (F ++ ex) = [] ∨ isd ((pt ++ (F ++ ex)).getD 0 0) = false := by
  rcases hpt with ⟨rfl, rfl⟩ | rfl
  ·rcases hex0 with h | h
   ·exact .inl (by simp [h])
   exact .inr (by simpa using h.1)
  exact .inr (show isd (46 : UInt8) = false from by decide)
 have hrunW := run_app hW hR0
 -- the first byte behind the sign
 have hb0 : isd ((W ++ (pt ++ (F ++ ex))).getD 0 0) = true ∨ (W ++ (pt ++ (F ++ ex))).getD 0 0 = 46 := by
  by_cases hw : W = []
  ·subst hw
   rcases hpt with ⟨_, hf⟩ | rfl
   ·rcases hne with h | h
    ·exact absurd rfl h
    exact absurd hf h
   exact .inr rfl
  rw [ne_getD hw]
  exact .inl ((Z2E _).1 (hW _ (Z2K (List.length_pos_iff.2 hw))))
 have hns : sgn ((W ++ (pt ++ (F ++ ex))).getD 0 0) = false := by
  rcases hb0 with h | h
  ·exact dig_nosgn _ h
  rw [h]; decide
 obtain ⟨hsg, hng⟩ := sg_app hz (.inr hns)
 have eb : W ++ (pt ++ (F ++ ex)) = (z ++ (W ++ (pt ++ (F ++ ex)))).drop (sg (z ++ (W ++ (pt ++ (F ++ ex)))) 0) := by rw [hsg, List.drop_left]
 have hword : ¬ Z3E (W ++ (pt ++ (F ++ ex))) := fun h => by
  rw [word_iff] at h
  have := Z4Y (b := W ++ (pt ++ (F ++ ex))) (.inr hb0)
  omega
 have htk : (W ++ (pt ++ (F ++ ex))).take (run (W ++ (pt ++ (F ++ ex)))) = W := by rw [hrunW, List.take_left]
 have hdr : (W ++ (pt ++ (F ++ ex))).drop (run (W ++ (pt ++ (F ++ ex)))) = pt ++ (F ++ ex) := by rw [hrunW, List.drop_left]
 have hfs : Fs ((W ++ (pt ++ (F ++ ex))).drop (run (W ++ (pt ++ (F ++ ex))))) F ex := by
  rw [hdr]
  rcases hpt with ⟨rfl, rfl⟩ | rfl
  ·simp only [List.nil_append]
   exact .no (hex0.imp id fun h => h.2)
  have h1 := Fs.yes (R := [46] ++ (F ++ ex)) (by simp) rfl
  have h2 : ([46] ++ (F ++ ex)).drop 1 = F ++ ex := rfl
  have hrunF := run_app hF (hex0.imp id fun h => h.1)
  rw [h2, hrunF, List.take_left, List.drop_left] at h1
  exact h1
 have hzz : ¬ ((W ++ (pt ++ (F ++ ex))).take (run (W ++ (pt ++ (F ++ ex)))) = [] ∧ F = []) := by
  rw [htk]
  rintro ⟨h1, h2⟩
  rcases hne with h | h
  ·exact h h1
  exact h h2
 rcases hex with ⟨rfl, rfl⟩ | ⟨c, zE, E, en, rfl, hc, hzE, hE, hE0, rfl⟩
 ·refine ⟨false, [], ?_, rfl⟩
  have := RC.plain eb hword hfs hzz rfl
  rw [hng, htk] at this
  exact this
 have hEs : E = [] ∨ sgn (E.getD 0 0) = false := .inr (dig_nosgn _ ((Z2E _).1 (hE _ (Z2K (List.length_pos_iff.2 hE0)))))
 obtain ⟨hs1, hn1⟩ := sg_app hzE hEs
 have hd1 : (c :: (zE ++ E)).drop 1 = zE ++ E := rfl
 have hrunE : run E = E.length := by have := run_app hE (R := []) (.inl rfl); rwa [List.append_nil] at this
 have := RC.exp (E := E) eb hword hfs hzz (by simp) hc (by rw [hd1, hs1, List.drop_left])
 rw [hng, htk, hd1, hn1, hrunE, List.take_length, List.drop_length, decide_eq_true ⟨hE0, rfl⟩] at this
 exact ⟨en, E, this, rfl⟩
theorem Form.read {s : L8} {neg : Bool} {W F : L8} {x : Int} (h : Form s neg W F x) (hl : s.length ≤ 1024) : Z1S s neg 0 W F x 0 0 := by
 obtain ⟨en, E, hc, rfl⟩ := h.rc
 obtain ⟨ng', hr, hng⟩ := hc.read hl
 have : neg = ng' := by rw [hng]; cases ng' <;> rfl
 rw [this]
 exact hr
def numG (neg : Bool) (L : L8) (fl : Nat) (x : Int) : Bool × Int × Int × Int × Bool × Int × Int :=
 if L = [] then (neg, 0, 0, 0, false, 0, 0) else (neg, 0, pv (L.take (L.length - (L.length - 19))), x - fl + ((L.length - 19 : Nat) : Int), (L.drop (L.length - (L.length - 19))).any (fun c => !decide (c = 48)), 0, 0)
theorem Z1h.form {t : L8} {ng more neg : Bool} {wd man x p e x0 : Int} {W F : L8} (h : Z1h t ng wd man x more p e) (hf : Form t neg W F x0) (hl : t.length ≤ 1024) : (ng, wd, man, x, more, p, e) = numG neg (Z0P (W ++ F)) F.length x0 := by
 have hr := hf.read hl
 unfold numG
 cases h with
 | err hr2 he => obtain ⟨_, _, _, _, _, _, h⟩ := hr2.unique hr; exact absurd h he
 | nil hr2 hn =>
  obtain ⟨rfl, rfl, rfl, rfl, rfl, _⟩ := hr2.unique hr
  rcases hn with h | h
  ·exact absurd rfl h
  rw [if_pos h]
  congr 1
  simp
 | num hr2 hne hn =>
  obtain ⟨rfl, _, rfl, rfl, rfl, _⟩ := hr2.unique hr
  rw [if_neg hne, ← hn]
theorem ExR.form {t : L8} {neg : Bool} {n x e x0 : Int} {W F : L8} (h : ExR t n x e) (hf : Form t neg W F x0) (hl : t.length ≤ 1024) (h0 : Z0P (W ++ F) ≠ []) : n = pv (Z0P (W ++ F)) ∧ x = x0 - F.length ∧ e = 0 := by
 have := ExR.num (hf.read hl) h0
 exact h.unique this
theorem bys_snoc (l : L8) (c : UInt8) : bys l ++ [.int .u8 (c.toNat : Int)] = bys (l ++ [c]) := by simp [bys]
section
variable {P : Program} {N : Nat} {ops : Array Oper} {ρ : Env} {w w0 : World} {rest : List Oper} {d : Nat} {ty : TypeId} {pos : String} {af : Array Edge} {g : Option (Nat × Bool)} {B : Nat} {M : Nat → Prop} {σ : List As}
end
end Go.Proofs.YtjcbdogohjafdaaGreat.W
