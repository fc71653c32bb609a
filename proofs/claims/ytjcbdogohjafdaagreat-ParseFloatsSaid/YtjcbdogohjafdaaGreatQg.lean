/- walks of parse: Float, Exact, Need -/
import Derived.Test.YtjcbdogohjafdaaGreatQa
set_option linter.unusedVariables false
set_option linter.unusedSimpArgs false
set_option maxRecDepth 10000
namespace Go.Proofs.YtjcbdogohjafdaaGreat.W
open Go.Vc Go.RowKit Tryz
def mayP (i : Nat) (k wd man x : Int) (more : Bool) : Prop := (i = 0 → wdP wd man) ∧ (i = 1 → shP k man x more) ∧ (i = 2 → inQ x)
instance (i : Nat) (k wd man x : Int) (more : Bool) : Decidable (mayP i k wd man x more) := by unfold mayP; infer_instance
theorem mayC (i : Nat) (hi : i < 4) (cp A : Option Addr) (tl tc : Nat) (k wd man x : Int) (ng more : Bool) (w : World) : VCall P (mayV i) [.agg #[.pointer cp, .int .i64 k, .slice A tl tc, .bool ng, .int .i64 wd, .int .u64 man, .int .i64 x, .bool more]] w fun r w' => r = .bool (decide (mayP i k wd man x more)) ∧ Grow w w' [] := by
 have key : ∀ {q : Prop} [Decidable q] {r : Value} {w' : World}, (q ↔ mayP i k wd man x more) → r = .bool (decide q) ∧ Grow w w' [] → r = .bool (decide (mayP i k wd man x more)) ∧ Grow w w' [] := fun h1 h2 => by
  rw [← decide_eq_decide.2 h1]
  exact h2
 rcases (show i = 0 ∨ i = 1 ∨ i = 2 ∨ i = 3 by omega) with rfl | rfl | rfl | rfl
 ·exact ⟨_, _, _, rfl, func61, rfl, rfl, (wordP cp A tl tc k wd man x ng more w).mono fun r w' h => key (by unfold mayP; simp) h⟩
 ·exact ⟨_, _, _, rfl, func64, rfl, rfl, (shortP cp A tl tc k wd man x ng more w).mono fun r w' h => key (by unfold mayP; simp) h⟩
 ·exact ⟨_, _, _, rfl, func51, rfl, rfl, (tabledP cp A tl tc k wd man x ng more w).mono fun r w' h => key (by unfold mayP; simp) h⟩
 exact ⟨_, _, _, rfl, func93, rfl, rfl, (roads2P cp A tl tc k wd man x ng more w).mono fun r w' h => ⟨by rw [h.1, decide_eq_true (show mayP 3 k wd man x more by unfold mayP; simp)], h.2⟩⟩
def GoP (t : L8) (i : Nat) (d : Kd) (k : Int) (ng : Bool) (wd man x : Int) (more : Bool) (Ln : L8) (xx : Int) (L : Cac) (bb : Int) (ok : Bool) (e : Int) (L' : Cac) : Prop :=
 (i = 0 ∧ bb = spF d ng wd ∧ ok = true ∧ e = 0 ∧ L' = L) ∨
 (i = 1 ∧ ok = true ∧ e = 0 ∧ L' = L ∧ ∃ tt, fltT d (pv Ln) xx tt ∧ tt.2.2 = 0 ∧ bb = sgF d ng tt.1) ∨
 (i = 2 ∧ TabR k ng wd man x more bb ok e ∧ cacT k wd man x L L') ∨
 (i = 3 ∧ ok = true ∧ L' = L ∧ ∃ tt, fltT d (pv Ln) xx tt ∧ bb = (if tt.2.2 = 0 then sgF d ng tt.1 else 0) ∧ e = (if tt.2.2 = 0 then 0 else 90))
theorem Grow.trans0 {w w' : World} (h : Grow w w' []) (τ : List As) : Z3t w w' τ τ := fun w0 B M σ hs => h w0 B M (τ ++ σ) hs
theorem goesC (i : Nat) (hi : i < 4) (b : Nat) (L : Cac) (hL : L.length = 41) (A : Option Addr) (tc : Nat) (t : L8) (hLt : t.length ≤ 1099511627776) (k wd man x : Int) (ng more : Bool) (d : Kd) (hk : kd k = some d) (hman : 0 ≤ man ∧ man ≤ 18446744073709551615) (hxb : -110000 ≤ x ∧ x ≤ 110000) (Ln : L8) (q : Nat) (xx : Int)
  (hnum : ¬ wdP wd man → NumX t man x more Ln q xx) (hm : mayP i k wd man x more) (hpr : 1 ≤ i → ¬ wdP wd man) (w : World) (hS : Sep w.heap.size (fps (cacW b L)) w (cacW b L)) (hv : IB w (.slice A t.length tc) t) :
  VCall P (goesV i) [.agg #[.pointer (some ⟨b, 0, none⟩), .int .i64 k, .slice A t.length tc, .bool ng, .int .i64 wd, .int .u64 man, .int .i64 x, .bool more]] w fun r w' => ∃ bb ok e L', r = .tuple #[.int .u64 bb, .bool ok, .int .i64 e] ∧ GoP t i d k ng wd man x more Ln xx L bb ok e L' ∧ Z3t w w' (cacW b L) (cacW b L') := by
 rcases (show i = 0 ∨ i = 1 ∨ i = 2 ∨ i = 3 by omega) with rfl | rfl | rfl | rfl
 ·refine ⟨_, _, _, rfl, func62, rfl, rfl, (wordGoesP (some ⟨b, 0, none⟩) A t.length tc k wd man x ng more d hk w).mono fun r w' h => ?_⟩
  exact ⟨_, _, _, L, h.1, .inl ⟨rfl, rfl, rfl, rfl, rfl⟩, Grow.trans0 h.2 _⟩
 ·have hN := hnum (hpr ZO)
  have hsh := hm.2.1 rfl
  obtain ⟨mn, rfl⟩ := Int.eq_ofNat_of_zero_le hman.1
  have hm0 := hN.m0
  refine ⟨_, _, _, rfl, func91, rfl, rfl, (shortGoesP (some ⟨b, 0, none⟩) A t.length tc k wd x mn ng more d hk ZO hsh w).mono fun r w' h => ?_⟩
  obtain ⟨tt, hr, hf, h0, _, _, hG⟩ := h
  have hmo : more = false := hsh.1.1.1
  subst hmo
  exact ⟨_, _, _, L, hr, .inr (.inl ⟨rfl, rfl, rfl, rfl, tt, flt_short hN hf, h0, rfl⟩), Grow.trans0 hG _⟩
 ·refine ⟨_, _, _, rfl, func92, rfl, rfl, (roads1P b L hL A t.length tc k wd man x ng more hman ZO w hS).mono fun r w' h => ?_⟩
  obtain ⟨bb, ok, e, L', hr, hT, hC, hX⟩ := h
  exact ⟨bb, ok, e, L', hr, .inr (.inr (.inl ⟨rfl, hT, hC⟩)), hX⟩
 have hN := hnum (hpr ZO)
 refine ⟨_, _, _, rfl, func94, rfl, rfl, (roads3P (some ⟨b, 0, none⟩) wd man x A tc t hLt k ng d hk more Ln q xx hN w hv).mono fun r w' h => ?_⟩
 obtain ⟨tt, hf, hr, hG⟩ := h
 exact ⟨_, _, _, L, hr, .inr (.inr (.inr ⟨rfl, rfl, rfl, tt, hf, rfl, rfl⟩)), Grow.trans0 hG _⟩
inductive Z1W (t : L8) (k : Int) : Option Int → Prop
 | kind (h : kd k = none) : Z1W t k none
 | err {d : Kd} {ng more : Bool} {wd man x p e : Int} (h : kd k = some d) (hs : Z1h t ng wd man x more p e) (he : ¬ e = 0) : Z1W t k none
 | word {d : Kd} {ng more : Bool} {wd man x p : Int} (h : kd k = some d) (hs : Z1h t ng wd man x more p 0) (hw : wdP wd man) : Z1W t k none
 | short {d : Kd} {ng more : Bool} {wd man x p : Int} (h : kd k = some d) (hs : Z1h t ng wd man x more p 0) (hw : ¬ wdP wd man) (hh : shP k man x more) : Z1W t k none
 | far {d : Kd} {ng more : Bool} {wd man x p : Int} (h : kd k = some d) (hs : Z1h t ng wd man x more p 0) (hw : ¬ wdP wd man) (hh : ¬ shP k man x more) (hx : ¬ inQ x) : Z1W t k none
 | ask {d : Kd} {ng more : Bool} {wd man x p : Int} (h : kd k = some d) (hs : Z1h t ng wd man x more p 0) (hw : ¬ wdP wd man) (hh : ¬ shP k man x more) (hx : inQ x) : Z1W t k (some x)
def CaO (L : Cac) (o : Option Int) (L' : Cac) : Prop := match o with | none => L' = L | some q => CacQ L q L'
theorem roadS_2 {d : Kd} {k man x : Int} {more : Bool} (h : shP k man x more) : Z4M d k man x more = 2 := if_pos h
theorem Z5H {d : Kd} {k man x : Int} {more : Bool} (h : ¬ shP k man x more) (hx : inQ x) (ha : agP d man x more) : Z4M d k man x more = 3 := by unfold Z4M; rw [if_neg h, if_pos ⟨hx, ha⟩]
theorem Z5K {d : Kd} {k man x : Int} {more : Bool} (h : ¬ shP k man x more) (hx : inQ x → ¬ agP d man x more) : Z4M d k man x more = 4 := by unfold Z4M; rw [if_neg h, if_neg (fun h => hx h.1 h.2)]
theorem tab_is {t : L8} {d : Kd} {k : Int} {ng more ok : Bool} {wd man x : Int} {bb e : Int} {Ln : L8} {q : Nat} {xx : Int} (hk : kd k = some d) (hw : ¬ wdP wd man) (hx : inQ x) (hN : NumX t man x more Ln q xx) (hT : TabR k ng wd man x more bb ok e) :
  (agP d man x more ∧ ∃ tt, fltT d (pv Ln) xx tt ∧ (ok = true ∨ ¬ e = 0) ∧ bb = (if tt.2.2 = 0 then sgF d ng tt.1 else 0) ∧ e = (if tt.2.2 = 0 then 0 else 90)) ∨ (¬ agP d man x more ∧ ok = false ∧ e = 0) := by
 cases hT with
 | kind h2 => rw [hk] at h2; cases h2
 | word _ H2 => exact absurd H2 hw
 | far _ _ hx2 => exact absurd hx hx2
 | @ends d' t1 t2 h2 _ _ k1 k2 =>
  rw [hk] at h2
  cases h2
  have hI := d.I_lt
  by_cases ha : t1.2.2 = t2.2.2 ∧ t1.1 = t2.1
  ·left
   have hag := (agP.iff k1 k2).2 ha
   refine ⟨hag, ?_⟩
   obtain ⟨tt, htt⟩ := RndR.exists (d := d) (N := pv Ln * 10 ^ xx.toNat * 2 ^ d.l) (D := 10 ^ (-xx).toNat) (Ma.pow_pos ZO _) (Int.mul_nonneg (Int.mul_nonneg (Int.le_of_lt hN.pos) (Int.le_of_lt (Ma.pow_pos ZO _))) (Int.le_of_lt (Ma.pow_pos ZO _)))
   have hb := tab_between hx (Int.le_of_lt hN.m0) hN.e (Int.le_of_lt hN.pos) hN.lo hN.hi k1 k2 htt ha
   refine ⟨tt, htt, ?_⟩
   have b1 := RndR.bits k1
   rcases b1 with ⟨h0, _⟩ | ⟨h0, h1⟩
   ·have e : tabF d ng t1 t2 = (sgF d ng t1.1, true, 0) := by
     unfold tabF
     rw [if_neg ZO, if_neg ZO]
     rfl
    have h2 : tt.2.2 = 0 := by omega
    rw [e, if_pos h2, if_pos h2, hb.1]
    exact ⟨.inl rfl, rfl, rfl⟩
   have e : tabF d ng t1 t2 = (0, false, 90) := by unfold tabF; rw [if_pos ZO]
   have h2 : ¬ tt.2.2 = 0 := by omega
   rw [e, if_neg h2, if_neg h2]
   exact ⟨.inr (by decide), rfl, rfl⟩
  right
  refine ⟨fun h => ha ((agP.iff k1 k2).1 h), ?_⟩
  have b1 := RndR.bits k1
  have b2 := RndR.bits k2
  unfold tabF
  rw [if_neg ZO, if_pos ZO]
  exact ⟨rfl, rfl⟩
def FlI (d : Kd) (k : Int) (L : Cac) (wd man x : Int) (more : Bool) (i : Nat) (L1 : Cac) : Prop :=
 i ≤ 3 ∧ (1 ≤ i → ¬ wdP wd man) ∧ (2 ≤ i → ¬ shP k man x more) ∧ L1.length = 41 ∧ (i ≤ 2 → L1 = L) ∧ (i = 3 → (inQ x → CacQ L x L1 ∧ ¬ agP d man x more) ∧ (¬ inQ x → L1 = L))
theorem FlI.skip {d : Kd} {k wd man x : Int} {L L1 : Cac} {more : Bool} {i : Nat} (h : FlI d k L wd man x more i L1) (hn : ¬ mayP i k wd man x more) : FlI d k L wd man x more (i + 1) L1 := by
 obtain ⟨h1, h2, h3, h4, h5, h6⟩ := h
 unfold mayP at hn
 rcases (show i = 0 ∨ i = 1 ∨ i = 2 ∨ i = 3 by omega) with rfl | rfl | rfl | rfl
 ·exact ⟨ZO, fun _ hw => hn ⟨fun _ => hw, by simp, by simp⟩, ZO, h4, fun _ => h5 ZO, ZO⟩
 ·exact ⟨ZO, fun _ => h2 ZO, fun _ hs => hn ⟨by simp, fun _ => hs, by simp⟩, h4, fun _ => h5 ZO, ZO⟩
 ·exact ⟨ZO, fun _ => h2 ZO, fun _ => h3 ZO, h4, ZO, fun _ => ⟨fun hx => absurd ⟨by simp, by simp, fun _ => hx⟩ hn, fun _ => h5 ZO⟩⟩
 exact absurd ⟨by simp, by simp, by simp⟩ hn
theorem FlI.go {t : L8} {d : Kd} {k wd man x xx bb e : Int} {L L1 L2 : Cac} {more ng ok : Bool} {i q : Nat} {Ln : L8} (hk : kd k = some d) (hN : ¬ wdP wd man → NumX t man x more Ln q xx) (h : FlI d k L wd man x more i L1) (hm : mayP i k wd man x more)
  (hg : GoP t i d k ng wd man x more Ln xx L1 bb ok e L2) (hno : ¬ (ok = true ∨ ¬ e = 0)) : FlI d k L wd man x more (i + 1) L2 := by
 obtain ⟨h1, h2, h3, h4, h5, h6⟩ := h
 rcases hg with ⟨rfl, _, h, _⟩ | ⟨rfl, h, _⟩ | ⟨rfl, hT, hC⟩ | ⟨rfl, h, _⟩
 ·exact absurd (.inl h) hno
 ·exact absurd (.inl h) hno
 ·have hw := h2 ZO
  have hx : inQ x := hm.2.2 rfl
  have hL := h5 ZO
  subst hL
  unfold cacT at hC
  rw [if_pos ⟨by rw [hk]; rfl, hw⟩] at hC
  refine ⟨ZO, fun _ => hw, fun _ => h3 ZO, by rw [hC.len]; exact h4, ZO, fun _ => ⟨fun _ => ⟨hC, ?_⟩, fun h => absurd hx h⟩⟩
  rcases tab_is hk hw hx (hN hw) hT with ⟨_, _, _, hyes, _⟩ | ⟨ha, _⟩
  ·exact absurd hyes hno
  exact ha
 exact absurd (.inl h) hno
theorem FlI.stop {t : L8} {d : Kd} {k wd man x xx bb e : Int} {L L1 L2 : Cac} {more ng ok : Bool} {i q : Nat} {Ln : L8} (hk : kd k = some d) (hs : Z1h t ng wd man x more 0 0) (hN : ¬ wdP wd man → NumX t man x more Ln q xx) (h : FlI d k L wd man x more i L1) (hm : mayP i k wd man x more)
  (hg : GoP t i d k ng wd man x more Ln xx L1 bb ok e L2) (hyes : ok = true ∨ ¬ e = 0) : FlR t k bb ((i : Int) + 1) 0 e ∧ ∃ o, Z1W t k o ∧ CaO L o L2 := by
 obtain ⟨h1, h2, h3, h4, h5, h6⟩ := h
 rcases hg with ⟨rfl, rfl, _, rfl, rfl⟩ | ⟨rfl, _, rfl, rfl, tt, hf, h0, rfl⟩ | ⟨rfl, hT, hC⟩ | ⟨rfl, _, rfl, tt, hf, rfl, rfl⟩
 ·have hw : wdP wd man := hm.1 rfl
  exact ⟨.word hk hs hw, none, .word hk hs hw, h5 ZO⟩
 ·have hw := h2 ZO
  have hh : shP k man x more := hm.2.1 rfl
  have hF := FlR.num hk hs hw (hN hw).ex hf
  rw [if_pos h0, if_pos h0, roadS_2 hh] at hF
  exact ⟨hF, none, .short hk hs hw hh, h5 ZO⟩
 ·have hw := h2 ZO
  have hh := h3 ZO
  have hx : inQ x := hm.2.2 rfl
  have hL := h5 ZO
  subst hL
  unfold cacT at hC
  rw [if_pos ⟨by rw [hk]; rfl, hw⟩] at hC
  refine ⟨?_, some x, .ask hk hs hw hh hx, hC⟩
  rcases tab_is hk hw hx (hN hw) hT with ⟨ha, tt, hf, _, rfl, rfl⟩ | ⟨_, ho, he⟩
  ·have hF := FlR.num hk hs hw (hN hw).ex hf
   rw [Z5H hh hx ha] at hF
   exact hF
  rw [ho, he] at hyes
  simp at hyes
 have hw := h2 ZO
 have hh := h3 ZO
 have hx := h6 rfl
 have hF := FlR.num hk hs hw (hN hw).ex hf
 rw [Z5K hh (fun h => (hx.1 h).2)] at hF
 refine ⟨hF, ?_⟩
 by_cases hq : inQ x
 ·exact ⟨some x, .ask hk hs hw hh hq, (hx.1 hq).1⟩
 exact ⟨none, .far hk hs hw hh hq, hx.2 hq⟩
theorem asksE (cp : Option Addr) (k : Int) (A : Option Addr) (tc : Nat) (t : L8) (hL : t.length ≤ 1099511627776) (w : World) (hv : IB w (.slice A t.length tc) t) : Z0g P 41 [.pointer cp, .int .i64 k, .slice A t.length tc] w fun r w' =>
  ∃ cp1 k1 A1 tl1 tc1 ng wd man x more p e, r = .tuple #[.agg #[.pointer cp1, .int .i64 k1, .slice A1 tl1 tc1, .bool ng, .int .i64 wd, .int .u64 man, .int .i64 x, .bool more], .int .i64 p, .int .i64 e] ∧
   ((kd k = none ∧ p = 0 ∧ e = 30) ∨ ∃ d, kd k = some d ∧ Z1h t ng wd man x more p e ∧ cp = cp1 ∧ k = k1 ∧ A = A1 ∧ t.length = tl1 ∧ tc = tc1) ∧ Grow w w' [] := by
 refine (asksP cp k A tc t hL w hv).mono ?_
 rintro r w' ⟨⟨h1, rfl⟩ | ⟨d, ng, wd, man, x, more, p, e, h1, h2, rfl⟩, hG⟩
 ·exact ⟨_, _, _, _, _, _, _, _, _, _, _, _, rfl, .inl ⟨h1, rfl, rfl⟩, hG⟩
 exact ⟨_, _, _, _, _, _, _, _, _, _, _, _, rfl, .inr ⟨d, h1, h2, rfl, rfl, rfl, rfl, rfl⟩, hG⟩
theorem num_any {t : L8} {ng more : Bool} {wd man x p : Int} (hs : Z1h t ng wd man x more p 0) : ∃ Ln q xx, ¬ wdP wd man → NumX t man x more Ln q xx := by
 by_cases h : wdP wd man
 ·exact ⟨[], 0, 0, fun h2 => absurd h h2⟩
 have h3 : wd = 0 ∧ man ≠ 0 := by unfold wdP at h; omega
 have hs2 := hs
 rw [h3.1] at hs2
 obtain ⟨_, L, q, xx, hN⟩ := num_ex hs2 h3.2
 exact ⟨L, q, xx, fun _ => hN⟩
theorem Z2v (b : Nat) (L : Cac) (hL : L.length = 41) (k : Int) (A : Option Addr) (tc : Nat) (t : L8) (hLt : t.length ≤ 1099511627776) (w : World) (hS : Sep w.heap.size (fps (cacW b L)) w (cacW b L)) (hv : ∀ w1 : World, (∀ k, k < w.heap.size → ¬ fps (cacW b L) k → w1.heap[k]? = w.heap[k]?) → IB w1 (.slice A t.length tc) t) :
  Z0g P 16 [.pointer (some ⟨b, 0, none⟩), .int .i64 k, .slice A t.length tc] w fun r w' => ∃ bb road place e L' o, r = .tuple #[.int .u64 bb, .int .i64 road, .int .i64 place, .int .i64 e] ∧ FlR t k bb road place e ∧ Z1W t k o ∧ CaO L o L' ∧ L'.length = 41 ∧ Z3t w w' (cacW b L) (cacW b L') := by
 refine Z0o func16 rfl ntmps16 rfl ?_
 have H0 : St w w.heap.size (fps (cacW b L)) (cacW b L) w := St.startS hS
 refine Z03 (Z00 (Zg (Zg (Zg (Zg (Z02 (Z01 (Z03 (Z00 (Zm (Zm ?_)))))))))))
 refine Zm ?_
 refine Zc func41 (asksE (some ⟨b, 0, none⟩) k A tc t hLt w (H0.ikM hv)) ?_
 rintro _ w1 ⟨cp1, k1, A1, tl1, tc1, ng, wd, man, x, more, p, e, rfl, hAsk, hG⟩
 have H1 := hG _ _ _ _ H0
 simp only [Zca, Zna] at H1
 refine Zm ?_
 refine Zx (Zx (Zx ?_))
 refine Z0H H1 ta106 rfl rfl (fun b1_8 w2 H2 => ?_)
 refine Z0a H2 .head (.zero (.zero (.zero (.zero (.zero (.zero (.zero (.zero .nil)))))))) rfl Z31 rfl rfl ZC (fun w3 H3 => ?_)
 refine Zg (Zg (Z02 (Z01 (Z03 (Z03 (Z00 (Zm ?_)))))))
 refine Zo ?_
 refine Z02 (Z01 ?_)
 refine Zk [8, 9, 10, 25] ?_
 (first | refine Z08 rfl ?_ ?_ | refine Z05 rfl ?_ ?_) <;> intro hc0
 ·refine Z03 (Z00 (Zm (Zm (Zg (Zg (Zg (Zg (Z02 (Z01 ?_)))))))))
  refine Z0f ?_
  refine Z06 ?_
  refine Z0p results16 (.tmp rfl (.tmp rfl (.tmp rfl (.tmp rfl .nil)))) rfl ?_
  refine ⟨_, rfl, ?_⟩
  have H6 := St.del (.tail (.tail .head)) (St.front2 (St.front2 H3))
  rcases hAsk with ⟨hno, rfl, rfl⟩ | ⟨d, hk, hsc, rfl, rfl, rfl, rfl, rfl⟩
  ·exact ⟨0, 0, 0, 30, L, none, rfl, .kind hno, .kind hno, rfl, hL, H6.transS⟩
  exact ⟨0, 0, p, e, L, none, rfl, .err hk hsc hc0, .err hk hsc hc0, rfl, hL, H6.transS⟩
 have he0 : e = 0 := by omega
 subst he0
 rcases hAsk with ⟨_, _, h30⟩ | ⟨d, hk, hsc, rfl, rfl, rfl, rfl, rfl⟩
 ·exact absurd h30 ZO
 have hbd := hsc.bds
 have hp0 := hsc.pos0
 subst hp0
 obtain ⟨Ln, q, xx, hnum⟩ := num_any hsc
 refine Z09 (Z01 (Z03 (Z03 (Z00 ?_))))
 refine Zc func42 (roadsP w3) ?_
 rintro _ w7 ⟨rb, rfl, hG⟩
 have H7 := hG _ _ _ _ H3
 simp only [Zca, Zna] at H7
 have hik0 : IK w7 3 (.slice (some ⟨rb, 0, none⟩) 4 4) rdL := ⟨rdL_rows, _, _, rfl, by decide, blk_sl (H7.ok mem0)⟩
 have H8 := St.frontL (l := [_, _, _]) H7
 simp only [Zca, Zna] at H8
 have H9 := St.frontL (l := [_, _, _]) H8
 simp only [Zca, Zna] at H9
 have H10 := St.frontL (l := [_, _, _]) H9
 simp only [Zca, Zna] at H10
 have H11 := St.frontL (l := [_, _, _]) H10
 simp only [Zca, Zna] at H11
 refine k_len rfl rfl underlying109 rfl (by first | exact H11.ibl mem0 | exact H11.ibl mem1 | exact H11.ibl mem2 | exact H11.ikM hv | assumption) ?_
 refine Z0q (s := 29) (v' := .int .i64 4) rfl rfl ?_
 refine Zm (Z02 (Z01 (Z0c ?_)))
 refine Z0v (ι := Nat × Cac) (fun (z0 : Nat × Cac) => match z0 with | ⟨i, L1⟩ => 4 - i) (fun (z0 : Nat × Cac) (w' : World) => match z0 with | ⟨i, L1⟩ => St w w.heap.size (fps (cacW b L)) ([As.blk rb 114 [.int .i64 1, .func (.func 61) #[] #[], .func (.func 62) #[] #[], .int .i64 2, .func (.func 64) #[] #[], .func (.func 91) #[] #[], .int .i64 3, .func (.func 51) #[] #[], .func (.func 92) #[] #[], .int .i64 4, .func (.func 93) #[] #[], .func (.func 94) #[] #[]], As.blk b1_8 106 [.pointer (some ⟨b, 0, none⟩), .int .i64 k, .slice A t.length tc, .bool ng, .int .i64 wd, .int .u64 man, .int .i64 x, .bool more], As.blk b 103 (cacC L1), As.many (inR L1)]) w' ∧ FlI d k L wd man x more i L1) (fun (z0 : Nat × Cac) => match z0 with | ⟨i, L1⟩ => [(30, .int .i64 (i : Int))]) [10, 28, 29] (0, L) ?_ (.cons rfl (.cons rfl (.cons rfl .nil))) ?_ ?_
 ·exact ⟨H11, ZO, ZO, ZO, hL, fun _ => rfl, ZO⟩
 ·exact (.cons rfl ZN .nil)
 rintro ⟨i, L1⟩ w12 ⟨H12, hFl⟩
 show RunC P _ _ _ (_ :: _) _
 have hi4 := hFl.1
 refine Z03 (Z00 ?_)
 refine Zl ?_
 refine Z0q (s := 31) (v' := .bool true) rfl (by simp; omega) ?_
 refine Z02 (Z01 (Z03 ?_))
 refine c_cond_t rfl rfl ?_
 refine Z09 (Z01 ?_)
 refine Zk [10, 28, 29, 30] ?_
 refine Z0R (ι := Cac) (fun (L2 : Cac) (w' : World) => St w w.heap.size (fps (cacW b L)) ([As.blk rb 114 [.int .i64 1, .func (.func 61) #[] #[], .func (.func 62) #[] #[], .int .i64 2, .func (.func 64) #[] #[], .func (.func 91) #[] #[], .int .i64 3, .func (.func 51) #[] #[], .func (.func 92) #[] #[], .int .i64 4, .func (.func 93) #[] #[], .func (.func 94) #[] #[]], As.blk b1_8 106 [.pointer (some ⟨b, 0, none⟩), .int .i64 k, .slice A t.length tc, .bool ng, .int .i64 wd, .int .u64 man, .int .i64 x, .bool more], As.blk b 103 (cacC L2), As.many (inR L2)]) w' ∧ FlI d k L wd man x more (i + 1) L2) (fun (L2 : Cac) => []) [10, 28, 29, 30] (.cons rfl (.cons rfl (.cons rfl (.cons rfl .nil)))) ?_ ?_
 ·refine Z0c (Z03 (Z00 ?_))
  have hi3 : i < 4 := by omega
  have hrl : rdL.length = 4 := rfl
  have hik : IK w12 3 (.slice (some ⟨rb, 0, none⟩) 4 4) rdL := ⟨rdL_rows, _, _, rfl, by decide, blk_sl (H12.ok mem0)⟩
  have hmo1 := mayV_one i
  have hgo1 := goesV_one i
  refine Z4k (j := i) rfl rfl underlying109 tz114 (by decide) rfl rfl (by first | exact H12.ibl mem0 | exact H12.ibl mem1 | exact H12.ibl mem2 | exact H12.ikM hv | assumption) ZP ZI (fun ad6_0 ac6_0 hA6_0 => ?_)
  refine k_load (j := i) rfl rfl underlying114 rfl tz114 rfl hA6_0 (by first | exact H12.ibl mem0 | exact H12.ibl mem1 | exact H12.ibl mem2 | exact H12.ikM hv | assumption) (rdL_at hi3) ?_
  refine Z0H H12 ta114 rfl rfl (fun b6_2 w13 H13 => ?_)
  refine Z0a H13 .head (.zero (.zero (.zero .nil))) rfl tz114 rfl rfl ZC (fun w14 H14 => ?_)
  refine Z02 (Z01 (Z03 (Z03 (Z00 (Z0b fo114_1 rfl rfl rfl ?_)))))
  refine Z07 H14 mem0 rfl rfl underlying111 rfl rfl rfl ?_
  refine Z0e H14 mem2 rfl rfl underlying106 rfl Z31 rfl (.take (.take (.take (.take (.take (.take (.take (.take .nil)))))))) ?_
  refine l_callx rfl rfl rfl (.cons rfl .nil) (mayC i hi3 (some ⟨b, 0, none⟩) A t.length tc k wd man x ng more w14) ?_
  rintro _ w15 ⟨rfl, hG⟩
  have H15 := hG _ _ _ _ H14
  simp only [Zca, Zna] at H15
  first | refine Z1c rfl rfl rfl ?_ | refine Z1N rfl rfl rfl ?_
  refine Z02 (Z01 ?_)
  (first | refine Z08 rfl ?_ ?_ | refine Z05 rfl ?_ ?_) <;> intro hc2
  ·refine Z0y ?_
   refine Z04 ?_
   refine Z0d ?_
   have H16 := St.frontL (l := [_, _, _, _]) H15
   simp only [Zca, Zna] at H16
   have H17 := St.frontL (l := [_, _, _, _]) H16
   simp only [Zca, Zna] at H17
   have H18 := St.frontL (l := [_, _, _, _]) H17
   simp only [Zca, Zna] at H18
   have H19 := St.frontL (l := [_, _, _, _]) H18
   simp only [Zca, Zna] at H19
   have H20 := St.del (.tail (.tail (.tail (.tail .head)))) H19
   refine Z0s (L1) ?_ (.cons rfl (.cons rfl (.cons rfl (.cons rfl .nil)))) ?_
   ·exact ⟨H20, hFl.skip ZA⟩
   exact .nil
  have hm : mayP i k wd man x more := Classical.not_not.1 hc2
  refine Z09 (Z01 ?_)
  refine Zk [10, 12, 28, 29, 30] ?_
  refine Z03 (Z00 (Z0b fo114_2 rfl rfl rfl ?_))
  refine Z07 H15 mem0 rfl rfl underlying112 rfl rfl rfl ?_
  refine Z0e H15 mem2 rfl rfl underlying106 rfl Z31 rfl (.take (.take (.take (.take (.take (.take (.take (.take .nil)))))))) ?_
  have H21 := St.frontL (l := [_, _, _, _]) H15
  simp only [Zca, Zna] at H21
  have H22 := St.frontL (l := [_, _, _, _]) H21
  simp only [Zca, Zna] at H22
  refine l_callx rfl rfl rfl (.cons rfl .nil) (goesC i hi3 b L1 hFl.2.2.2.1 A tc t hLt k wd man x ng more d hk ⟨hbd.1, hbd.2.1⟩ hbd.2.2 Ln q xx hnum hm hFl.2.1 w15 (St.rows (τ := cacW b L1) H22) (H22.ikM hv)) ?_
  rintro _ w23 ⟨bb, ok, e2, L2, rfl, hGo, hX⟩
  have H23 := hX _ _ _ _ H22
  simp only [cacW, List.cons_append, List.nil_append] at H23
  have hL2' : L2.length = 41 := by
   rcases hGo with ⟨_, _, _, _, rfl⟩ | ⟨_, _, _, rfl, _⟩ | ⟨_, _, h⟩ | ⟨_, _, rfl, _⟩
   ·exact hFl.2.2.2.1
   ·exact hFl.2.2.2.1
   ·unfold cacT at h
    split at h
    ·rw [h.len]; exact hFl.2.2.2.1
    rw [h]; exact hFl.2.2.2.1
   exact hFl.2.2.2.1
  refine Zm ?_
  refine Zx (Zx (Zx (Zg (Zg (Zg (Z02 (Z01 (Z03 (Z00 (Zm (Zm ?_)))))))))))
  refine Z0q (s := 48) (v' := .bool (decide (ok = true))) rfl (by cases ok <;> rfl) ?_
  apply l_or 2 [10, 12, 13, 15, 28, 29, 30] rfl rfl (.cons rfl (.cons rfl (.cons rfl (.cons rfl (.cons rfl (.cons rfl (.cons rfl (.cons rfl .nil)))))))) rfl rfl (fun _ => rfl) rfl rfl rfl
  ·intro hg9_2
   refine Zm ?_
   refine Zo ?_
   refine Z02 ?_
   exact Z0n rfl (.cons rfl (ZF hg9_2) (.cons rfl rfl (.cons rfl rfl (.cons rfl rfl (.cons rfl rfl (.cons rfl rfl (.cons rfl rfl (.cons rfl rfl .nil))))))))
  refine Z02 (Z01 ?_)
  (first | refine Z08 rfl ?_ ?_ | refine Z05 rfl ?_ ?_) <;> intro hc3
  ·refine Z03 ?_
   refine Z2a ZK ZK ?_
   have H24 := H23.drewn
   refine Zm (Z0b fo114_0 rfl rfl rfl ?_)
   refine Z07 H24 mem2 rfl rfl underlying3 rfl rfl rfl ?_
   refine Zm (Zg (Zg (Zg (Zg (Z02 (Z01 ?_))))))
   refine Zk [6, 7, 8, 9] ?_
   refine Z0f ?_
   refine Z0r ?_
   refine Z06 ?_
   refine Z06 ?_
   refine Z0r ?_
   refine Z06 ?_
   refine Z0p results16 (.tmp rfl (.tmp rfl (.tmp rfl (.tmp rfl .nil)))) rfl ?_
   refine ⟨_, rfl, ?_⟩
   have H29 := St.del (.tail (.tail .head)) (St.del (.tail (.tail (.tail .head))) (St.del (.tail (.tail (.tail (.tail .head)))) (St.front1 (St.front1 H24))))
   obtain ⟨hF, o, hNe, hCa⟩ := hFl.stop hk hsc hnum hm hGo ZA
   exact ⟨bb, _, 0, e2, L2, o, rfl, hF, hNe, hCa, hL2', H29.transS⟩
  refine Z09 ?_
  refine Z0z ?_
  have H30 := St.frontL (l := [_]) H23
  simp only [Zca, Zna] at H30
  have H31 := St.frontL (l := [_]) H30
  simp only [Zca, Zna] at H31
  have H32 := St.frontL (l := [_, _, _, _]) H31
  simp only [Zca, Zna] at H32
  have H33 := St.frontL (l := [_, _, _, _]) H32
  simp only [Zca, Zna] at H33
  have H34 := St.del (.tail (.tail (.tail (.tail .head)))) H33
  refine Z0s (L2) ?_ (.cons rfl (.cons rfl (.cons rfl (.cons rfl .nil)))) ?_
  ·exact ⟨H34, hFl.go hk hnum hm hGo ZA⟩
  exact .nil
 rintro L2 w35 ⟨H35, hFl2⟩
 refine Z00 ?_
 refine Z0t rfl rfl rfl rfl (Z0h ZO) ?_
 refine Zm (Z02 ?_)
 refine Z0j (i := (i, L1)) (i + 1, L2) ?_ ?_ (.cons rfl (.cons rfl (.cons rfl .nil))) ?_
 ·first | omega | (simp; omega)
 ·exact ⟨H35, hFl2⟩
 exact (.cons rfl ZN .nil)
theorem ExactPP (k : Int) (A : Option Addr) (tc : Nat) (t : L8) (hLt : t.length ≤ 1099511627776) (w : World) (hv : IB w (.slice A t.length tc) t) :
  Z0g P 22 [.int .i64 k, .slice A t.length tc] w fun r w' => ∃ bb road place e, r = .tuple #[.int .u64 bb, .int .i64 e] ∧ FlR t k bb road place e ∧ Grow w w' [] := by
 refine Z0o func22 rfl ntmps22 rfl ?_
 have H0 := St.start w
 refine Z03 (Z00 (Zg (Zg (Z02 (Z01 (Z03 (Z00 (Zm (Zm ?_)))))))))
 refine Zc func41 (asksE none k A tc t hLt w (H0.iarg hv)) ?_
 rintro _ w1 ⟨cp1, k1, A1, tl1, tc1, ng, wd, man, x, more, p, e, rfl, hAsk, hG⟩
 have H1 := hG _ _ _ _ H0
 simp only [Zca, Zna] at H1
 refine Zm ?_
 refine Zx (Zx (Zx ?_))
 refine Z0H H1 ta106 rfl rfl (fun b1_7 w2 H2 => ?_)
 refine Z0a H2 .head (.zero (.zero (.zero (.zero (.zero (.zero (.zero (.zero .nil)))))))) rfl Z31 rfl rfl ZC (fun w3 H3 => ?_)
 refine Zg (Zg (Z02 (Z01 (Z03 (Z03 (Z00 (Zm ?_)))))))
 refine Zo ?_
 refine Z02 (Z01 ?_)
 refine Zk [0, 1, 5, 6, 16] ?_
 (first | refine Z08 rfl ?_ ?_ | refine Z05 rfl ?_ ?_) <;> intro hc0
 ·refine Z03 (Z00 (Zm (Zg (Zg (Z02 (Z01 ?_))))))
  refine Z0f ?_
  refine Z06 ?_
  refine Z0x results22 rfl rfl ?_
  refine ⟨_, rfl, ?_⟩
  have H4 := St.del .head H3
  rcases hAsk with ⟨hno, rfl, rfl⟩ | ⟨d, hk, hsc, rfl, rfl, rfl, rfl, rfl⟩
  ·exact ⟨0, 0, 0, 30, rfl, .kind hno, H4.grows⟩
  exact ⟨0, 0, p, e, rfl, .err hk hsc hc0, H4.grows⟩
 have he0 : e = 0 := by omega
 subst he0
 rcases hAsk with ⟨_, _, h30⟩ | ⟨d, hk, hsc, rfl, rfl, rfl, rfl, rfl⟩
 ·exact absurd h30 ZO
 have hbd := hsc.bds
 have hp0 := hsc.pos0
 subst hp0
 obtain ⟨Ln, q, xx, hnum⟩ := num_any hsc
 refine Z09 (Z01 (Z03 (Z03 (Z00 ?_))))
 refine Z0e H3 mem0 rfl rfl underlying106 rfl Z31 rfl (.take (.take (.take (.take (.take (.take (.take (.take .nil)))))))) ?_
 refine Zc func61 (wordP none A t.length tc k wd man x ng more w3) ?_
 rintro _ w5 ⟨rfl, hG⟩
 have H5 := hG _ _ _ _ H3
 simp only [Zca, Zna] at H5
 refine Z02 (Z01 ?_)
 refine Zk [0, 1, 6, 19] ?_
 (first | refine Z08 rfl ?_ ?_ | refine Z05 rfl ?_ ?_) <;> intro hc1
 ·refine Z03 (Z00 ?_)
  refine Z0e H5 mem0 rfl rfl underlying106 rfl Z31 rfl (.take (.take (.take (.take (.take (.take (.take (.take .nil)))))))) ?_
  refine Zc func62 (wordGoesP none A t.length tc k wd man x ng more d hk w5) ?_
  rintro _ w6 ⟨rfl, hG⟩
  have H6 := hG _ _ _ _ H5
  simp only [Zca, Zna] at H6
  refine Zm ?_
  refine Zx (Zx (Zx (Zg (Zg (Z02 (Z01 (Z03 (Z00 (Zm (Zm (Zg ?_)))))))))))
  refine Zg (Z02 (Z01 ?_))
  refine Z0f ?_
  refine Z06 ?_
  refine Z0x results22 rfl rfl ?_
  refine ⟨_, rfl, ?_⟩
  have H7 := St.del .head H6
  exact ⟨_, _, _, _, rfl, .word hk hsc hc1, H7.grows⟩
 refine Z09 (Z01 ?_)
 refine Zk [0, 1, 6] ?_
 refine Z03 (Z00 (Zm (Z0b Z18 rfl rfl rfl (Z0b Z3F rfl rfl rfl ?_))))
 refine Z07 H5 mem0 rfl rfl underlying4 rfl rfl rfl ?_
 refine Zm ?_
 refine Zc func63 (exactPP A tc t hLt k ng d hk man x more Ln q xx (hnum hc1) w5 (H5.iarg hv)) ?_
 rintro _ w8 ⟨tt, htt, rfl, hG⟩
 have H8 := hG _ _ _ _ H5
 simp only [Zca, Zna] at H8
 refine Zx (Zx (Zg (Zg (Z02 (Z01 ?_)))))
 refine Z0f ?_
 refine Z0x results22 rfl rfl ?_
 refine ⟨_, rfl, ?_⟩
 have H9 := St.del .head H8
 exact ⟨_, _, _, _, rfl, .num hk hsc hc1 (hnum hc1).ex htt, H9.grows⟩
theorem Z1W.no {t : L8} {k : Int} {o : Option Int} (h : Z1W t k o) {d : Kd} {ng more : Bool} {wd man x p : Int} (hk : kd k = some d) (hs : Z1h t ng wd man x more p 0) (hw : ¬ wdP wd man) (hh : ¬ shP k man x more) (hx : inQ x) : o = some x := by
 cases h with
 | kind h2 => rw [hk] at h2; cases h2
 | err _ hs2 he => obtain ⟨_, _, _, _, _, _, h3⟩ := hs.unique hs2; exact absurd h3.symm he
 | word _ hs2 H2 => obtain ⟨rfl, rfl, rfl, rfl, rfl, rfl, _⟩ := hs.unique hs2; exact absurd H2 hw
 | short _ hs2 _ hh2 => obtain ⟨rfl, rfl, rfl, rfl, rfl, rfl, _⟩ := hs.unique hs2; exact absurd hh2 hh
 | far _ hs2 _ _ hx2 => obtain ⟨rfl, rfl, rfl, rfl, rfl, rfl, _⟩ := hs.unique hs2; exact absurd hx hx2
 | ask _ hs2 _ _ _ => obtain ⟨rfl, rfl, rfl, rfl, rfl, rfl, _⟩ := hs.unique hs2; rfl
theorem Z1W.unique {t : L8} {k : Int} {o o' : Option Int} (h : Z1W t k o) (h' : Z1W t k o') : o = o' := by
 rcases o with _ | y
 ·rcases o' with _ | z
  ·rfl
  cases h' with
  | ask hk hs hw hh hx => exact h.no hk hs hw hh hx
 cases h with
 | ask hk hs hw hh hx => exact (h'.no hk hs hw hh hx).symm
def needS (o : Option Int) : Int := match o with | none => 0 | some q => (Z1s q).1
theorem NeedPP (k : Int) (A : Option Addr) (tc : Nat) (t : L8) (hLt : t.length ≤ 1099511627776) (w : World) (hv : IB w (.slice A t.length tc) t) :
  Z0g P 24 [.int .i64 k, .slice A t.length tc] w fun r w' => ∃ o, r = .tuple #[.int .i64 (needS o), .bool o.isSome] ∧ Z1W t k o ∧ Grow w w' [] := by
 refine Z0o func24 rfl ntmps24 rfl ?_
 have H0 := St.start w
 refine Z03 (Z00 (Zg (Zg (Z02 (Z01 (Z03 (Z00 (Zm (Zm ?_)))))))))
 refine Zc func41 (asksE none k A tc t hLt w (H0.iarg hv)) ?_
 rintro _ w1 ⟨cp1, k1, A1, tl1, tc1, ng, wd, man, x, more, p, e, rfl, hAsk, hG⟩
 have H1 := hG _ _ _ _ H0
 simp only [Zca, Zna] at H1
 refine Zm ?_
 refine Zx (Zx (Zx ?_))
 refine Z0H H1 ta106 rfl rfl (fun b1_7 w2 H2 => ?_)
 refine Z0a H2 .head (.zero (.zero (.zero (.zero (.zero (.zero (.zero (.zero .nil)))))))) rfl Z31 rfl rfl ZC (fun w3 H3 => ?_)
 refine Zg (Zg (Z02 (Z01 (Z03 (Z03 (Z00 (Zm ?_)))))))
 refine Zo ?_
 refine Zm ?_
 apply l_orS H3 2 [6] rfl rfl (.cons rfl (.cons rfl .nil)) rfl rfl (fun _ => rfl) rfl rfl rfl
 ·intro hg2_3
  refine Z0e H3 mem0 rfl rfl underlying106 rfl Z31 rfl (.take (.take (.take (.take (.take (.take (.take (.take .nil)))))))) ?_
  refine Zc func61 (wordP cp1 A1 tl1 tc1 k1 wd man x ng more w3) ?_
  rintro _ w4 ⟨rfl, hG⟩
  have H4 := hG _ _ _ _ H3
  simp only [Zca, Zna] at H4
  refine Z02 ?_
  exact Z4s H4 rfl (.cons rfl (ZF hg2_3) (.cons rfl rfl .nil))
 intro w5 H5
 refine Zm ?_
 apply l_orS H5 2 [6] rfl rfl (.cons rfl (.cons rfl .nil)) rfl rfl (fun _ => rfl) rfl rfl rfl
 ·intro hg2_7
  refine Z0e H5 mem0 rfl rfl underlying106 rfl Z31 rfl (.take (.take (.take (.take (.take (.take (.take (.take .nil)))))))) ?_
  refine Zc func64 (shortP cp1 A1 tl1 tc1 k1 wd man x ng more w5) ?_
  rintro _ w6 ⟨rfl, hG⟩
  have H6 := hG _ _ _ _ H5
  simp only [Zca, Zna] at H6
  refine Z02 ?_
  exact Z4s H6 rfl (.cons rfl (ZF hg2_7) (.cons rfl rfl .nil))
 intro w7 H7
 refine Zm ?_
 apply l_orS H7 3 [6] rfl rfl (.cons rfl (.cons rfl .nil)) rfl rfl (fun _ => rfl) rfl rfl rfl
 ·intro hg2_11
  refine Z0e H7 mem0 rfl rfl underlying106 rfl Z31 rfl (.take (.take (.take (.take (.take (.take (.take (.take .nil)))))))) ?_
  refine Zc func51 (tabledP cp1 A1 tl1 tc1 k1 wd man x ng more w7) ?_
  rintro _ w8 ⟨rfl, hG⟩
  have H8 := hG _ _ _ _ H7
  simp only [Zca, Zna] at H8
  first | refine Z1c rfl rfl rfl ?_ | refine Z1N rfl rfl rfl ?_
  refine Z02 ?_
  exact Z4s H8 rfl (.cons rfl (ZF hg2_11) (.cons rfl rfl .nil))
 intro w9 H9
 refine Z02 (Z01 ?_)
 refine Zk [6, 30] ?_
 (first | refine Z08 rfl ?_ ?_ | refine Z05 rfl ?_ ?_) <;> intro hc0
 ·refine Z03 (Z00 (Zg (Zg (Z02 (Z01 ?_)))))
  refine Z0f ?_
  refine Z06 ?_
  refine Z0x results24 rfl rfl ?_
  refine ⟨_, rfl, ?_⟩
  have H10 := St.del .head H9
  rcases hAsk with ⟨hno, rfl, rfl⟩ | ⟨d, hk, hsc, rfl, rfl, rfl, rfl, rfl⟩
  ·exact ⟨none, rfl, .kind hno, H10.grows⟩
  by_cases he : e = 0
  ·subst he
   by_cases hw' : wdP wd man
   ·exact ⟨none, rfl, .word hk hsc hw', H10.grows⟩
   by_cases hs : shP k man x more
   ·exact ⟨none, rfl, .short hk hsc hw' hs, H10.grows⟩
   by_cases hx : inQ x
   ·exfalso
    rcases hc0 with ((h | h) | h) | h
    ·exact h rfl
    ·exact hw' h
    ·exact hs h
    exact h hx
   exact ⟨none, rfl, .far hk hsc hw' hs hx, H10.grows⟩
  exact ⟨none, rfl, .err hk hsc he, H10.grows⟩
 have he0 : e = 0 := Classical.not_not.1 fun h => hc0 (.inl (.inl (.inl h)))
 have hc1 : ¬ wdP wd man := fun h => hc0 (.inl (.inl (.inr h)))
 have hc2 : ¬ shP k1 man x more := fun h => hc0 (.inl (.inr h))
 have hc3 : inQ x := Classical.not_not.1 fun h => hc0 (.inr h)
 subst he0
 rcases hAsk with ⟨_, _, h30⟩ | ⟨d, hk, hsc, rfl, rfl, rfl, rfl, rfl⟩
 ·exact absurd h30 ZO
 have hbd := hsc.bds
 refine Z09 (Z01 (Z03 (Z00 (Z0b Z18 rfl rfl rfl (Z0b Z23 rfl rfl rfl ?_)))))
 refine Z07 H9 mem0 rfl rfl underlying3 rfl rfl rfl ?_
 refine Zp func65 (whereP x ZO _) ?_
 refine Zm ?_
 refine Zx (Zx (Zx (Zg (Z02 (Z01 ?_)))))
 refine Zk [4] ?_
 refine Z03 (Z00 (Zm (Zg (Zg (Z02 (Z01 ?_))))))
 refine Z0f ?_
 refine Z0x results24 rfl rfl ?_
 refine ⟨_, rfl, ?_⟩
 have H11 := St.del .head H9
 exact ⟨some x, rfl, .ask hk hsc hc1 hc2 hc3, H11.grows⟩
def clT (x : Int) : Int := if 400 < x then 400 else if x < -1500 then -1500 else x
theorem clT_bd (x : Int) : -1500 ≤ clT x ∧ clT x ≤ 400 := by unfold clT; split; omega; split <;> omega
theorem flt_clip {d : Kd} {t : L8} {man x : Int} {more : Bool} {L : L8} {q : Nat} {xx : Int} {tt : Int × Bool × Int} (hN : NumX t man x more L q xx) (h : fltT d (pv L) (clT xx) tt) : fltT d (pv L) xx tt := by
 have hL := hN.len
 have hne := hN.ne
 have hbd := Z1i L.length L rfl hN.dg
 have hlead := Z4z hN.dg hN.ne (fun e => hN.hd ((Z1R (d := 48)).1 e))
 unfold clT at h
 split at h
 ·rw [h.unique (Z5M (g := L.length - 1) hlead ZO)]
  exact Z5M (g := L.length - 1) hlead ZO
 split at h
 ·rw [h.unique (Z5N (g := L.length) hN.pos hbd.2 ZO)]
  exact Z5N (g := L.length) hN.pos hbd.2 ZO
 exact h
set_option exponentiation.threshold 6000 in
theorem clip_n {n x : Int} {g : Nat} (hn : n < 10 ^ g) (hg : g ≤ 1024) : n * 10 ^ (clT x).toNat < 2 ^ 4800 := by
 have hb := clT_bd x
 have h1 := Int.mul_lt_mul_of_pos_right hn (Ma.pow_pos (show (0 : Int) < 10 by omega) (clT x).toNat)
 rw [← Int.pow_add] at h1
 have h2 : (10 : Int) ^ (g + (clT x).toNat) ≤ 10 ^ 1424 := Ma.pow_mono ZO ZO
 have h3 : (10 : Int) ^ 1424 < 2 ^ 4800 := by
  have : (10 : Nat) ^ 1424 < 2 ^ 4800 := by decide +kernel
  exact_mod_cast this
 omega
set_option exponentiation.threshold 6000 in
theorem clip_d {x : Int} : (10 : Int) ^ (-(clT x)).toNat < 2 ^ 5000 := by
 have hb := clT_bd x
 have h2 : (10 : Int) ^ (-(clT x)).toNat ≤ 10 ^ 1500 := Ma.pow_mono ZO ZO
 have h3 : (10 : Int) ^ 1500 < 2 ^ 5000 := by
  have : (10 : Nat) ^ 1500 < 2 ^ 5000 := by decide +kernel
  exact_mod_cast this
 omega
theorem chk0 (k : Int) : (kd k = none ∧ chk k 0 = 30) ∨ ∃ d, kd k = some d ∧ chk k 0 = 0 := by
 unfold kd chk
 by_cases h : k = 9
 ·exact .inr ⟨.f32, by rw [if_pos h], by rw [if_pos h]; rfl⟩
 by_cases h2 : k = 10
 ·exact .inr ⟨.f64, by rw [if_neg h, if_pos h2], by rw [if_neg h, if_pos h2]⟩
 exact .inl ⟨by rw [if_neg h, if_neg h2], by rw [if_neg h, if_neg h2]⟩
theorem tenR (n : Int) (hn : n ≤ 1600) (w : World) :
  Z0g P 35 [.int .i64 n] w fun r w' => ∃ v ls, r = v ∧ R16 ls (10 ^ n.toNat) ∧ Grow w w' [As.ri 3 .i64 v ls] := by
 refine Z0o func35 rfl ntmps35 rfl ?_
 have H0 := St.start w
 refine Z03 (Z00 (Zg (Z02 (Z01 (Z03 (Z00 ?_))))))
 refine Z17 H0 rfl rfl underlying64 ti3 rfl (.cons rfl ZR .nil) rfl rfl rfl (fun b1_0 w1 H1 => ?_)
 have H2 := H1.blk_own (by decide)
 refine Zg (Z02 (Z01 (Z03 (Z03 (Z00 (Zg (Z02 (Z01 (Z0c ?_)))))))))
 refine Z0v (ι := Nat × List Int × Value) (fun (z0 : Nat × List Int × Value) => match z0 with | ⟨k, lx, vx⟩ => n.toNat - k) (fun (z0 : Nat × List Int × Value) (w' : World) => match z0 with | ⟨k, lx, vx⟩ => St w w.heap.size Z0B ([As.ri 3 .i64 vx lx]) w' ∧ ((k : Int) ≤ n ∨ k = 0) ∧ R16 lx (10 ^ k)) (fun (z0 : Nat × List Int × Value) => match z0 with | ⟨k, lx, vx⟩ => [(3, vx), (4, .int .i64 (k : Int))]) [0] (0, [1], .slice (some ⟨b1_0, 0, none⟩) 1 1) ?_ (.cons rfl .nil) ?_ ?_
 ·exact ⟨H2, .inr rfl, by rw [Int.pow_zero]; exact R16.one1⟩
 ·exact (.cons rfl ZN (.cons rfl ZN .nil))
 rintro ⟨k, lx, vx⟩ w3 ⟨H3, hk, hRx⟩
 show RunC P _ _ _ (_ :: _) _
 have hb10 := Z2q (n := k) ZO
 have hlx := hRx.len (k := 8192) ZO
 refine Z03 (Z03 (Z00 (Zm (Zm ?_))))
 refine Zl ?_
 refine Z02 (Z01 ?_)
 refine Zk [0, 3, 4, 8] ?_
 (first | refine Z08 rfl ?_ ?_ | refine Z05 rfl ?_ ?_) <;> intro hc0
 ·refine Z09 (Z01 (Z03 (Z0c (Z00 (Zm ?_)))))
  refine Z17 H3 rfl rfl underlying64 ti3 rfl (.cons rfl ZR .nil) rfl rfl rfl (fun b5_1 w4 H4 => ?_)
  refine Z0N rfl rfl func34 rfl rfl (.cons rfl (.cons rfl .nil)) (Z5i _ _ lx [10] _ 10 hRx R16.ten ZO (by simp) w4 (H4.io mem1) (H4.ibl mem0)) ?_
  rintro vp w5 ⟨_, lp, rfl, hRp, hG⟩
  have H5 := hG _ _ _ _ H4
  simp only [Zca, Zna] at H5
  refine Zg (Z02 ?_)
  refine Z0z ?_
  refine Z01 (Z00 (Zm ?_))
  refine Z0t rfl rfl rfl rfl (Z0h ZO) ?_
  refine Zg (Z02 ?_)
  have H7 := St.del (.tail .head) (St.del (.tail (.tail .head)) H5)
  refine Z0j (i := (k, lx, vx)) (k + 1, lp, vp) ?_ ?_ (.cons rfl .nil) ?_
  ·first | omega | (simp; omega)
  ·exact ⟨H7, .inl ZO, by rw [Int.pow_succ]; exact hRp⟩
  exact (.cons rfl ZN (.cons rfl ZN .nil))
 refine Z0y ?_
 refine Z04 ?_
 refine Z04 ?_
 refine Z0d ?_
 refine Z01 ?_
 refine Zk [3] ?_
 refine Z03 (Z00 (Zm (Zg (Z02 (Z01 ?_)))))
 refine Z0f ?_
 refine Z0l results35 rfl ?_
 refine ⟨_, rfl, ?_⟩
 obtain rfl : n.toNat = k := by omega
 exact ⟨_, _, rfl, hRx, H3.grows⟩
theorem ten9 (v : Value) (l : List Int) (n : Int) (hR : R16 l n) (hL : l.length ≤ 4096) (x : Int) (hx : -9223372036854775808 ≤ x ∧ x ≤ 9223372036854775807) (w : World) (hS : Sep w.heap.size (fps [As.ri 3 .i64 v l]) w [As.ri 3 .i64 v l]) :
  Z0g P 104 [v, .int .i64 x] w fun r w' => ∃ v1 l1 v2 l2, r = .tuple #[v1, v2] ∧ R16 l1 (n * 10 ^ (clT x).toNat) ∧ R16 l2 (10 ^ (-(clT x)).toNat) ∧ Z3t w w' [As.ri 3 .i64 v l] [As.ri 3 .i64 v2 l2, As.ri 3 .i64 v1 l1] := by
 refine Z0o func104 rfl ntmps104 rfl ?_
 have H0 : St w w.heap.size (fps [As.ri 3 .i64 v l]) [As.ri 3 .i64 v l] w := St.startS hS
 refine Z03 (Z00 (Zg (Zg (Z02 (Z01 ?_)))))
 refine Zk [0, 1] ?_
 refine Z0R (ι := Int) (fun (y : Int) (w' : World) => St w w.heap.size (fps [As.ri 3 .i64 v l]) ([As.ri 3 .i64 v l]) w' ∧ y = (if 400 < x then 400 else x)) (fun (y : Int) => [(1, .int .i64 y)]) [0] (.cons rfl .nil) ?_ ?_
 ·refine Z03 (Z00 (Zm ?_))
  refine Zw ?_
  refine Z02 (Z01 ?_)
  (first | refine Z08 rfl ?_ ?_ | refine Z05 rfl ?_ ?_) <;> intro hc0
  ·refine Z00 (Zg (Z02 ?_))
   refine Z0s (400) ?_ (.cons rfl .nil) ?_
   ·exact ⟨H0, by rw [if_pos ZO]⟩
   exact (.cons rfl ZN .nil)
  refine Z09 ?_
  refine Z0s (x) ?_ (.cons rfl .nil) ?_
  ·exact ⟨H0, by rw [if_neg ZO]⟩
  exact (.cons rfl ZN .nil)
 rintro y w1 ⟨H1, hy⟩
 show RunC P _ _ _ (_ :: _) _
 refine Z0R (ι := Int) (fun (z : Int) (w' : World) => St w w.heap.size (fps [As.ri 3 .i64 v l]) ([As.ri 3 .i64 v l]) w' ∧ z = clT x) (fun (z : Int) => [(1, .int .i64 z)]) [0] (.cons rfl .nil) ?_ ?_
 ·refine Z03 (Z00 (Zm ?_))
  refine Zl ?_
  refine Z02 (Z01 ?_)
  refine Zk [0, 1, 9] ?_
  (first | refine Z08 rfl ?_ ?_ | refine Z05 rfl ?_ ?_) <;> intro hc1
  ·refine Z00 (Zg (Z02 ?_))
   refine Z0s (-1500) ?_ (.cons rfl .nil) ?_
   ·exact ⟨H1, by unfold clT; split at hy <;> (repeat' split) <;> omega⟩
   exact (.cons rfl ZN .nil)
  refine Z09 ?_
  refine Z0s (y) ?_ (.cons rfl .nil) ?_
  ·exact ⟨H1, by unfold clT; split at hy <;> (repeat' split) <;> omega⟩
  exact (.cons rfl ZN .nil)
 rintro z w2 ⟨H2, hz⟩
 subst hz
 have hcb := clT_bd x
 show RunC P _ _ _ (_ :: _) _
 refine Z03 (Z03 (Z00 (Zm ?_)))
 refine Zh ?_
 refine Z02 (Z01 ?_)
 (first | refine Z08 rfl ?_ ?_ | refine Z05 rfl ?_ ?_) <;> intro hc2
 ·refine Z03 (Z00 (Zm (Zm ?_)))
  refine Zc func35 (tenR (clT x) ZO w2) ?_
  rintro vt w3 ⟨_, lt, rfl, hRt, hG⟩
  have H3 := hG _ _ _ _ H2
  simp only [Zca, Zna] at H3
  have hlt := hRt.len (k := 8192) (Z2q ZO)
  refine Z0N rfl rfl func34 rfl rfl (.cons rfl (.cons rfl .nil)) (Z5i v vt l lt n _ hR hRt ZO ZO w3 (H3.io mem1) (H3.io mem0)) ?_
  rintro vp w4 ⟨_, lp, rfl, hRp, hG⟩
  have H4 := hG _ _ _ _ H3
  simp only [Zca, Zna] at H4
  refine Z17 H4 rfl rfl underlying64 ti3 rfl (.cons rfl ZR .nil) rfl rfl rfl (fun b6_4 w5 H5 => ?_)
  refine Zg (Zg (Z02 (Z01 ?_)))
  refine Z0f ?_
  refine Z06 ?_
  refine Z0x results104 rfl rfl ?_
  refine ⟨_, rfl, ?_⟩
  have H11 := St.del (.tail (.tail .head)) (St.del (.tail (.tail (.tail .head))) (St.front3 (St.front3 (St.front3 (St.front3 H5)))))
  exact ⟨_, _, _, [1], rfl, hRp, by rw [show (-(clT x)).toNat = 0 by omega, Int.pow_zero]; exact R16.one1, (H11.blk_own (by decide)).transS⟩
 refine Z09 (Z01 ?_)
 refine Zk [0, 1] ?_
 refine Z03 (Z00 (Zm (Zm ?_)))
 refine Z2u rfl rfl rfl (Z0h ZO) ?_
 refine Z0q (s := 19) (v' := .int .i64 (-(clT x))) rfl (congrArg (Value.int .i64) ZO) ?_
 refine Zc func35 (tenR (-(clT x)) ZO w2) ?_
 rintro vt w12 ⟨_, lt, rfl, hRt, hG⟩
 have H12 := hG _ _ _ _ H2
 simp only [Zca, Zna] at H12
 refine Zg (Zg (Z02 (Z01 ?_)))
 refine Z0f ?_
 refine Z0x results104 rfl rfl ?_
 refine ⟨_, rfl, ?_⟩
 have H14 := St.front1 (St.front1 H12)
 exact ⟨_, _, _, _, rfl, by rw [show (clT x).toNat = 0 by omega, Int.pow_zero, Int.mul_one]; exact hR, hRt, H14.transS⟩
theorem Z5w (v : Value) (l : List Int) (n : Int) (hR : R16 l n) (hL : l.length ≤ 4096) (e : Int) (he : -2000 ≤ e ∧ e ≤ 2000) (w : World) (hS : Sep w.heap.size (fps [As.ri 3 .i64 v l]) w [As.ri 3 .i64 v l]) :
  Z0g P 102 [v, .int .i64 e] w fun r w' => ∃ v1 l1 v2 l2, r = .tuple #[v1, v2] ∧ R16 l1 (n * 2 ^ e.toNat) ∧ R16 l2 (2 ^ (-e).toNat) ∧ Z3t w w' [As.ri 3 .i64 v l] [As.ri 3 .i64 v2 l2, As.ri 3 .i64 v1 l1] := by
 refine Z0o func102 rfl ntmps102 rfl ?_
 have H0 : St w w.heap.size (fps [As.ri 3 .i64 v l]) [As.ri 3 .i64 v l] w := St.startS hS
 refine Z03 (Z00 (Zg (Zg (Z02 (Z01 (Z03 (Z03 (Z00 (Zm ?_)))))))))
 refine Zh ?_
 refine Z02 (Z01 ?_)
 (first | refine Z08 rfl ?_ ?_ | refine Z05 rfl ?_ ?_) <;> intro hc0
 ·refine Z03 (Z00 (Zm (Zm ?_)))
  refine Z0q (s := 9) (v' := .int .i64 ((e.toNat : Nat) : Int)) rfl (congrArg (Value.int .i64) ZO) ?_
  refine Z0N rfl rfl func86 rfl rfl (.cons rfl (.cons rfl .nil)) (leftR v l _ hR ZO e.toNat ZO w (H0.io mem0)) ?_
  rintro vy w1 ⟨_, ly, rfl, hRy, hG⟩
  have H1 := hG _ _ _ _ H0
  simp only [Zca, Zna] at H1
  refine Z17 H1 rfl rfl underlying64 ti3 rfl (.cons rfl ZR .nil) rfl rfl rfl (fun b2_3 w2 H2 => ?_)
  refine Zg (Zg (Z02 (Z01 ?_)))
  refine Zk [4, 5] ?_
  refine Z0f ?_
  refine Z06 ?_
  refine Z0x results102 rfl rfl ?_
  refine ⟨_, rfl, ?_⟩
  have H6 := St.del (.tail (.tail .head)) (St.front2 (St.front2 (St.front2 H2)))
  exact ⟨_, _, _, [1], rfl, hRy, by rw [show (-e).toNat = 0 by omega, Int.pow_zero]; exact R16.one1, (H6.blk_own (by decide)).transS⟩
 refine Z09 (Z01 (Z03 (Z00 (Zm ?_))))
 refine Z17 H0 rfl rfl underlying64 ti3 rfl (.cons rfl ZR .nil) rfl rfl rfl (fun b3_1 w7 H7 => ?_)
 refine Zm ?_
 refine Z2u rfl rfl rfl (Z0h ZO) ?_
 refine Z0q (s := 15) (v' := .int .i64 (((-e).toNat : Nat) : Int)) rfl (congrArg (Value.int .i64) ZO) ?_
 refine Z0N rfl rfl func86 rfl rfl (.cons rfl (.cons rfl .nil)) (leftR _ [1] 1 R16.one1 (by simp) (-e).toNat ZO w7 (H7.ibl mem0)) ?_
 rintro vy w8 ⟨_, ly, rfl, hRy, hG⟩
 have H8 := hG _ _ _ _ H7
 simp only [Zca, Zna] at H8
 refine Zg (Zg (Z02 (Z01 ?_)))
 refine Z0f ?_
 refine Z0x results102 rfl rfl ?_
 refine ⟨_, rfl, ?_⟩
 have H12 := St.del (.tail (.tail .head)) (St.front2 (St.front2 (St.front1 H8)))
 exact ⟨_, _, _, _, rfl, by rw [show e.toNat = 0 by omega, Int.pow_zero, Int.mul_one]; exact hR, by rw [Int.one_mul] at hRy; exact hRy, H12.transS⟩
theorem exactly9 (k : Int) (d : Kd) (hk : kd k = some d) (v : Value) (t : L8) (hLt : t.length ≤ 1099511627776) (man x0 : Int) (more : Bool) (Ln : L8) (q : Nat) (x : Int) (hN : NumX t man x0 more Ln q x) (w : World) (hv : IB w v t) :
  Z0g P 47 [.int .i64 k, v] w fun r w' => ∃ tt, fltT d (pv Ln) x tt ∧ r = .tuple #[.int .u64 tt.1, .bool (decide (tt.2.2 = 0))] ∧ Grow w w' [] := by
 refine Z0o func47 rfl ntmps47 rfl ?_
 have H0 := St.start w
 have hx1 := hN.x1
 have hx2 := hN.x2
 have hlen := hN.len
 have hbd := Z1i Ln.length Ln rfl hN.dg
 have hpos := hN.pos
 refine Z03 (Z00 (Zg (Zg (Z02 (Z01 (Z03 (Z00 (Zm ?_))))))))
 refine Z0N rfl rfl func33 rfl rfl (.cons rfl .nil) (exact8 _ t hLt w (H0.iarg hv)) ?_
 rintro _ w1 ⟨vx, lx, n3, x3, e3, rfl, hRx, hnx, hE3, hG⟩
 have H1 := hG _ _ _ _ H0
 simp only [Zca, Zna] at H1
 obtain ⟨rfl, rfl, rfl⟩ := hE3.num0 hN.ex
 have hlx := hRx.len_lt hnx
 refine Zm ?_
 refine Zx (Zx (Zx (Zg (Zg (Zg (Z02 (Z01 (Z03 (Z00 (Zm (Zm ?_)))))))))))
 refine Z0N rfl rfl func104 rfl rfl (.cons rfl (.cons rfl .nil)) (ten9 vx lx _ hRx ZO x ZO w1 (St.rows (τ := [As.ri 3 .i64 vx lx]) H1)) ?_
 rintro _ w2 ⟨v1, l1, v2, l2, rfl, hR1, hR2, hX⟩
 have H2 := hX _ _ _ _ H1
 simp only [Zca, Zna] at H2
 have hl1 := hR1.len_lt (clip_n hbd.2 ZO)
 have hl2 := hR2.len_lt clip_d
 refine Zm ?_
 refine Zx (Zx (Zg (Zg (Z02 (Z01 ?_)))))
 refine Zk [0, 9, 10] ?_
 refine Z03 (Z00 (Zm (Zm (Zm ?_))))
 refine Zc func103 (near3 k d hk v1 v2 l1 l2 (pv Ln * 10 ^ (clT x).toNat) (10 ^ (-(clT x)).toNat) hR1 hR2 ZO ZO (Ma.pow_pos ZO _) (Int.mul_nonneg (Int.le_of_lt hpos) (Int.le_of_lt (Ma.pow_pos ZO _))) w2 (H2.io mem1) (H2.io mem0)) ?_
 rintro _ w3 ⟨tt, rfl, hRn, hG⟩
 have H3 := hG _ _ _ _ H2
 simp only [Zca, Zna] at H3
 refine Zm ?_
 refine Zx (Zx (Zx (Zg (Zg (Zg (Z02 (Z01 (Z03 (Z00 (Zm (Zm ?_)))))))))))
 refine Zg (Zg (Z02 (Z01 ?_)))
 refine Z0f ?_
 refine Z0x results47 rfl rfl ?_
 refine ⟨_, rfl, ?_⟩
 have H5 := St.del .head (St.del (.tail .head) H3)
 exact ⟨tt, flt_clip hN hRn, rfl, H5.grows⟩
theorem with9 (k : Int) (d : Kd) (hk : kd k = some d) (b : Int) (hb : 0 ≤ b ∧ b < d.I) (ng : Bool) (w : World) :
  Z0g P 48 [.int .i64 k, .int .u64 b, .bool ng] w fun r w' => r = .int .u64 (sgF d ng b) ∧ w = w' := by
 refine Z0o func48 rfl ntmps48 rfl ?_
 refine Z03 (Z00 (Zg (Z02 (Z01 (Z03 (Z03 (Z00 (Zm (Z02 (Z01 ?_))))))))))
 (first | refine Z08 rfl ?_ ?_ | refine Z05 rfl ?_ ?_) <;> intro hc0
 ·refine Z03 (Z00 (Zm (Zm ?_)))
  refine Zp func95 (inf3 k d hk true _) ?_
  refine Z0t rfl rfl rfl rfl (Z21 _) ?_
  refine Zm ?_
  refine Zp func95 (inf3 k d hk false _) ?_
  refine Z0F rfl rfl rfl rfl (Z21 _) ?_
  refine Z0q (s := 14) (v' := .int .u64 (b + d.S)) rfl (congrArg (Value.int .u64) (by have hI := hb.2; cases d <;> simp only [Kd.I, Kd.S] at * <;> simp <;> omega)) ?_
  refine Zg (Z02 (Z01 ?_))
  refine Zk [6] ?_
  refine Z0f ?_
  refine Z06 ?_
  refine Z0l results48 rfl ?_
  refine ⟨_, rfl, ?_⟩
  exact ⟨by unfold sgF; rw [if_pos ZA], rfl⟩
 refine Z09 (Z01 (Z03 (Z00 (Zm (Zg (Z02 (Z01 ?_)))))))
 refine Z0f ?_
 refine Z0l results48 rfl ?_
 refine ⟨_, rfl, ?_⟩
 exact ⟨by unfold sgF; rw [if_neg (by simp_all)], rfl⟩
theorem special9 (k : Int) (d : Kd) (hk : kd k = some d) (ng : Bool) (wd man x : Int) (more : Bool) (w : World) :
  Z0g P 44 [.int .i64 k, .agg #[.bool ng, .int .i64 wd, .int .u64 man, .int .i64 x, .bool more]] w fun r w' => r = .int .u64 (spF d ng wd) ∧ Grow w w' [] := by
 refine Z0o func44 rfl ntmps44 rfl ?_
 have H0 := St.start w
 refine Z03 (Z00 ?_)
 refine Z2f H0 rfl rfl rfl (fun b0_0 w1 H1 => ?_)
 refine Zg (Z02 (Z01 (Z03 (Z03 (Z00 (Z0b Z5J rfl rfl rfl ?_))))))
 refine Z07 H1 mem0 rfl rfl underlying3 rfl rfl rfl ?_
 refine Z02 (Z01 (Z0c (Z03 (Z00 ?_))))
 refine Ze ?_
 refine Zg (Z02 (Z01 ?_))
 refine Zk [0, 3, 6, 7] ?_
 (first | refine Z08 rfl ?_ ?_ | refine Z05 rfl ?_ ?_) <;> intro hc0
 ·refine Z03 (Z00 (Zm (Z0b Z3F rfl rfl rfl ?_)))
  refine Z07 H1 mem0 rfl rfl underlying4 rfl rfl rfl ?_
  refine Zp func95 (inf3 k d hk ng _) ?_
  refine Zg (Z02 (Z01 ?_))
  refine Z0f ?_
  refine Z0r ?_
  refine Z06 ?_
  refine Z0l results44 rfl ?_
  refine ⟨_, rfl, ?_⟩
  have H2 := St.del .head H1
  exact ⟨by unfold spF; rw [if_pos (show wd = 1 by assumption)], H2.grows⟩
 refine Z03 (Z00 ?_)
 refine Ze ?_
 refine Zg (Z02 (Z01 ?_))
 (first | refine Z08 rfl ?_ ?_ | refine Z05 rfl ?_ ?_) <;> intro hc1
 ·refine Z03 (Z00 (Zm ?_))
  refine Zp func96 (no3 k d hk _) ?_
  refine Zg (Z02 (Z01 ?_))
  refine Zk [4] ?_
  refine Z0f ?_
  refine Z0r ?_
  refine Z06 ?_
  refine Z0l results44 rfl ?_
  refine ⟨_, rfl, ?_⟩
  have H3 := St.del .head H1
  exact ⟨by unfold spF; rw [if_neg (show ¬ wd = 1 by assumption), if_pos (show wd = 2 by assumption)], H3.grows⟩
 refine Z09 ?_
 refine Z0z ?_
 refine Z01 (Z03 (Z00 (Zm (Z0b Z3F rfl rfl rfl ?_))))
 refine Z07 H1 mem0 rfl rfl underlying4 rfl rfl rfl ?_
 refine Zp func48 (with9 k d hk 0 ⟨ZO, by have := d.I_lt; omega⟩ ng _) ?_
 refine Zg (Z02 (Z01 ?_))
 refine Z0f ?_
 refine Z0l results44 rfl ?_
 refine ⟨_, rfl, ?_⟩
 have H4 := St.del .head H1
 exact ⟨by unfold spF sgF; rw [if_neg (show ¬ wd = 1 by assumption), if_neg (show ¬ wd = 2 by assumption), Int.zero_add], H4.grows⟩
theorem isShort9 (k : Int) (ng : Bool) (wd man x : Int) (more : Bool) (w : World) :
  Z0g P 45 [.int .i64 k, .agg #[.bool ng, .int .i64 wd, .int .u64 man, .int .i64 x, .bool more]] w fun r w' => r = .bool (decide (shP k man x more)) ∧ Grow w w' [] := by
 refine Z0o func45 rfl ntmps45 rfl ?_
 have H0 := St.start w
 refine Z03 (Z00 ?_)
 refine Z2f H0 rfl rfl rfl (fun b0_0 w1 H1 => ?_)
 refine Zg (Z02 (Z01 (Z03 (Z00 (Zg (Zg (Z02 (Z01 ?_))))))))
 refine Z0R (ι := Int × Int) (fun (z0 : Int × Int) (w' : World) => match z0 with | ⟨mo, fa⟩ => St w w.heap.size Z0B ([As.blk b0_0 40 [.bool ng, .int .i64 wd, .int .u64 man, .int .i64 x, .bool more]]) w' ∧ mo = (if k = 9 then 16777216 else 9007199254740992) ∧ fa = (if k = 9 then 10 else 22) ∧ 0 ≤ fa ∧ fa ≤ 22) (fun (z0 : Int × Int) => match z0 with | ⟨mo, fa⟩ => [(5, .int .u64 mo), (6, .int .i64 fa)]) [3] (.cons rfl .nil) ?_ ?_
 ·refine Z03 (Z00 (Zm ?_))
  refine Ze ?_
  refine Z02 (Z01 ?_)
  (first | refine Z08 rfl ?_ ?_ | refine Z05 rfl ?_ ?_) <;> intro hc0
  ·refine Z00 (Zg (Zg (Z02 ?_)))
   refine Z0s (16777216, 10) ?_ (.cons rfl .nil) ?_
   ·exact ⟨H1, by rw [if_pos ZA], by rw [if_pos ZA], ZO, ZO⟩
   exact (.cons rfl ZN (.cons rfl ZN .nil))
  refine Z09 ?_
  refine Z0s (9007199254740992, 22) ?_ (.cons rfl .nil) ?_
  ·exact ⟨H1, by rw [if_neg ZA], by rw [if_neg ZA], ZO, ZO⟩
  exact (.cons rfl ZN (.cons rfl ZN .nil))
 rintro ⟨mo, fa⟩ w2 ⟨H2, hmo, hfa, hf0, hf2⟩
 show RunC P _ _ _ (_ :: _) _
 refine Z03 (Z00 (Z0b Z3C rfl rfl rfl ?_))
 refine Z07 H2 mem0 rfl rfl underlying4 rfl rfl rfl ?_
 first | refine Z1c rfl rfl rfl ?_ | refine Z1N rfl rfl rfl ?_
 refine Zm ?_
 refine Z0q (s := 12) (v' := .bool (decide (more = false))) rfl (by cases more <;> rfl) ?_
 apply Z13 4 [3, 6] rfl rfl (.cons rfl (.cons rfl (.cons rfl .nil))) rfl rfl (fun _ => rfl) rfl rfl rfl
 ·intro hg4_4
  refine Z0b Z3B rfl rfl rfl ?_
  refine Z07 H2 mem0 rfl rfl underlying30 rfl rfl rfl ?_
  refine Zm ?_
  refine Zf ?_
  refine Z02 ?_
  exact Z0n rfl (.cons rfl (ZT hg4_4) (.cons rfl rfl (.cons rfl rfl .nil)))
 refine Zm ?_
 apply Z13 4 [3, 6] rfl rfl (.cons rfl (.cons rfl (.cons rfl .nil))) rfl rfl (fun _ => rfl) rfl rfl rfl
 ·intro hg4_10
  refine Z0b Z23 rfl rfl rfl ?_
  refine Z07 H2 mem0 rfl rfl underlying3 rfl rfl rfl ?_
  refine Zm ?_
  refine Zf ?_
  refine Z02 ?_
  exact Z0n rfl (.cons rfl (ZT hg4_10) (.cons rfl rfl (.cons rfl rfl .nil)))
 refine Zm ?_
 apply Z13 5 [] rfl rfl (.cons rfl .nil) rfl rfl (fun _ => rfl) rfl rfl rfl
 ·intro hg4_16
  refine Z0b Z23 rfl rfl rfl ?_
  refine Z07 H2 mem0 rfl rfl underlying3 rfl rfl rfl ?_
  refine Zm ?_
  refine Z2u rfl rfl rfl (Z0h ZO) ?_
  refine Zh ?_
  refine Z02 ?_
  exact Z0n rfl (.cons rfl (ZT hg4_16) .nil)
 refine Zg (Z02 (Z01 ?_))
 refine Zk [4] ?_
 refine Z0f ?_
 refine Z0l results45 rfl ?_
 refine ⟨_, rfl, ?_⟩
 have H3 := St.del .head H2
 refine ⟨?_, H3.grows⟩
 refine congrArg Value.bool (decide_eq_decide.2 ?_)
 unfold shP
 rw [← hmo, ← hfa]
 constructor
 ·rintro ⟨⟨h1, h2⟩, h3⟩
  exact ⟨⟨h1, ZO⟩, h2⟩
 rintro ⟨⟨h1, h2⟩, h3⟩
 exact ⟨⟨h1, h3⟩, ZO⟩
theorem ends9t (k : Int) (d : Kd) (hk : kd k = some d) (ng : Bool) (wd man x : Int) (hm0 : 0 < man) (hman : man ≤ 18446744073709551615) (hin : inQ x) (w : World) :
  Z0g P 46 [.int .i64 k, .agg #[.bool ng, .int .i64 wd, .int .u64 man, .int .i64 x, .bool true]] w fun r w' => ∃ t1 t2, r = .tuple #[.int .u64 t1.1, .bool (decide (t1.2.2 = 0)), .int .u64 t2.1, .bool (decide (t2.2.2 = 0))] ∧ tabT d (tbLo x * man) x t1 ∧ tabT d (tbHi x * (man + 1)) x t2 ∧ Grow w w' [] := by
 refine Z0o func46 rfl ntmps46 rfl ?_
 have H0 := St.start w
 have hf := tb_f hin
 have f1 := hf.f1
 have f2 := hf.f2
 have f3 := hf.m
 have f4 := hf.m0
 have f5 := hf.e1
 have f6 := hf.e2
 have f7 := hf.lo
 have f8 := hf.hi
 have f9 := hf.er
 have hin2 := hin
 unfold inQ at hin2
 have htl : tbLo x ≤ 340282366920938463463374607431768211456 := by unfold tbLo; split <;> omega
 have hth : 0 < tbHi x := by unfold tbHi; split; omega; split <;> omega
 refine Z03 (Z00 ?_)
 refine Z2f H0 rfl rfl rfl (fun b0_0 w1 H1 => ?_)
 refine Zg (Zg (Zg (Zg (Z02 (Z01 (Z03 (Z00 (Z0b Z23 rfl rfl rfl ?_))))))))
 refine Z07 H1 mem0 rfl rfl underlying3 rfl rfl rfl ?_
 refine Zc func97 (entryR x ZO w1) ?_
 rintro _ w2 ⟨rfl, hG⟩
 have H2 := hG _ _ _ _ H1
 simp only [Zca, Zna] at H2
 refine Zm ?_
 refine Zx (Zx (Zx ?_))
 refine Z0H H2 Z5a rfl rfl (fun b1_7 w3 H3 => ?_)
 refine Z0a H3 .head (.zero (.zero .nil)) rfl Z1I rfl rfl ZC (fun w4 H4 => ?_)
 refine Zg (Zg (Z02 (Z01 (Z03 ?_))))
 have H5 := H4.drewn
 refine Z2t (n := 6) [Zz,Zz,Zz,Zz,Zz,Zz] (fun wS => (As.blk b1_7 124 (wrow (entS x).1)).ok wS) ZK rfl rfl ?_
 apply Zu (L' := [Zy,Zz,Zz,Zz,Zz,Zz]) 0 (H5.ok mem0)
 ·intro wS sS
  refine Z0e (Z1x sS) mem0 rfl rfl underlying124 rfl Z1I rfl (.take (.take .nil)) ?_
  refine Z02 ?_
  exact Z0m rfl
 apply Zu (L' := [Zy,Zz,Zy,Zz,Zz,Zz]) 2 (H5.ok mem0)
 ·intro wS sS
  refine Z0e (Z1x sS) mem0 rfl rfl underlying124 rfl Z1I rfl (.take (.take .nil)) ?_
  refine Z02 ?_
  exact Z0m rfl
 refine Z0K (L' := [Zy,Zy,Zy,Zz,Zz,Zz]) 1 ZK rfl rfl ?_
 refine Zc func98 (ofR ((entS x).1 / 18446744073709551616) ((entS x).1 % 18446744073709551616) ZO ZO w4.drew) ?_
 rintro va w6 ⟨_, la, rfl, hRa, hG⟩
 have H6 := hG _ _ _ _ H5
 simp only [Zca, Zna] at H6
 rw [Z5h] at hRa
 have hla := hRa.len_lt (k := 128) (show (entS x).1 < 2 ^ 128 by rw [show (2 : Int) ^ 128 = 340282366920938463463374607431768211456 from by decide]; exact f3)
 refine Z02 ?_
 refine Z0D (H6.ok mem1) ?_
 refine Z0K (L' := [Zy,Zy,Zy,Zy,Zz,Zz]) 3 ZK rfl rfl ?_
 refine Zc func98 (ofR ((entS x).1 / 18446744073709551616) ((entS x).1 % 18446744073709551616) ZO ZO w6) ?_
 rintro vb w7 ⟨_, lb, rfl, hRb, hG⟩
 have H7 := hG _ _ _ _ H6
 simp only [Zca, Zna] at H7
 rw [Z5h] at hRb
 have hlb := hRb.len_lt (k := 128) (show (entS x).1 < 2 ^ 128 by rw [show (2 : Int) ^ 128 = 340282366920938463463374607431768211456 from by decide]; exact f3)
 refine Z02 ?_
 refine Z0D (H7.ok mem2) ?_
 apply Zu (L' := [Zy,Zy,Zy,Zy,Zy,Zz]) 4 (H7.ok mem2)
 ·intro wS sS
  refine Zg (Z02 ?_)
  exact Z0m rfl
 apply Zu (L' := [Zy,Zy,Zy,Zy,Zy,Zy]) 5 (H7.ok mem2)
 ·intro wS sS
  refine Zg (Z02 ?_)
  exact Z0m rfl
 refine Z14 ZK ?_
 refine Z01 ?_
 refine Zk [0, 3, 9, 11, 12] ?_
 refine Z0R (ι := Value × List Int × Value × List Int) (fun (z0 : Value × List Int × Value × List Int) (w' : World) => match z0 with | ⟨va2, la2, vb2, lb2⟩ => St w w.heap.size Z0B ([As.ri 3 .i64 va2 la2, As.ri 3 .i64 vb2 lb2, As.blk b0_0 40 [.bool ng, .int .i64 wd, .int .u64 man, .int .i64 x, .bool true]]) w' ∧ R16 la2 (tbLo x) ∧ R16 lb2 (tbHi x)) (fun (z0 : Value × List Int × Value × List Int) => match z0 with | ⟨va2, la2, vb2, lb2⟩ => [(11, va2), (12, vb2)]) [0, 3, 9] (.cons rfl (.cons rfl (.cons rfl .nil))) ?_ ?_
 ·refine Z03 (Z00 (Z0b Z23 rfl rfl rfl ?_))
  refine Z07 H7 mem3 rfl rfl underlying3 rfl rfl rfl ?_
  refine Zl ?_
  refine Z02 (Z01 ?_)
  (first | refine Z08 rfl ?_ ?_ | refine Z05 rfl ?_ ?_) <;> intro hc0
  ·refine Z00 (Zm ?_)
   refine Z17 H7 rfl rfl underlying64 ti3 rfl (.cons rfl ZR .nil) rfl rfl rfl (fun b4_1 w8 H8 => ?_)
   refine Z0N rfl rfl func99 rfl rfl (.cons rfl (.cons rfl .nil)) (lessR va _ la [1] _ 1 hRa R16.one1 ZO (by simp) ZO w8 (H8.io mem2) (H8.ibl mem0)) ?_
   rintro vs w9 ⟨_, ls, rfl, hRs, hG⟩
   have H9 := hG _ _ _ _ H8
   simp only [Zca, Zna] at H9
   refine Zg (Z02 ?_)
   have H10 := St.frontL (l := [_, _, _, _, _]) H9
   simp only [Zca, Zna] at H10
   have H11 := St.frontL (l := [_, _, _]) H10
   simp only [Zca, Zna] at H11
   have H12 := St.frontL (l := [_, _]) H11
   simp only [Zca, Zna] at H12
   have H15 := St.del (.tail (.tail (.tail .head))) (St.del (.tail (.tail (.tail (.tail .head)))) (St.del (.tail (.tail (.tail (.tail (.tail .head))))) H12))
   refine Z0s (vs, ls, vb, lb) ?_ (.cons rfl (.cons rfl (.cons rfl .nil))) ?_
   ·refine ⟨H15, ?_, ?_⟩
    ·unfold tbLo
     rw [if_pos ZO]
     exact hRs
    unfold tbHi
    rw [if_pos ZO]
    exact hRb
   exact (.cons rfl ZN (.cons rfl ZN .nil))
  refine Z03 (Z00 (Z0b Z23 rfl rfl rfl ?_))
  refine Z07 H7 mem3 rfl rfl underlying3 rfl rfl rfl ?_
  refine Zp func100 (exactR6 x _) ?_
  first | refine Z1c rfl rfl rfl ?_ | refine Z1N rfl rfl rfl ?_
  refine Z02 (Z01 ?_)
  (first | refine Z08 rfl ?_ ?_ | refine Z05 rfl ?_ ?_) <;> intro hc1
  ·refine Z00 (Zm ?_)
   refine Z17 H7 rfl rfl underlying64 ti3 rfl (.cons rfl ZR .nil) rfl rfl rfl (fun b6_1 w16 H16 => ?_)
   refine Z0N rfl rfl func101 rfl rfl (.cons rfl (.cons rfl .nil)) (sumR vb _ lb [1] _ 1 hRb R16.one1 ZO (by simp) w16 (H16.io mem1) (H16.ibl mem0)) ?_
   rintro vs w17 ⟨_, ls, rfl, hRs, hG⟩
   have H17 := hG _ _ _ _ H16
   simp only [Zca, Zna] at H17
   refine Zg (Z02 ?_)
   have H18 := St.frontL (l := [_, _, _, _, _]) H17
   simp only [Zca, Zna] at H18
   have H19 := St.frontL (l := [_]) H18
   simp only [Zca, Zna] at H19
   have H20 := St.frontL (l := [_, _, _, _]) H19
   simp only [Zca, Zna] at H20
   have H23 := St.del (.tail (.tail (.tail .head))) (St.del (.tail (.tail (.tail (.tail .head)))) (St.del (.tail (.tail (.tail (.tail (.tail .head))))) H20))
   refine Z0s (va, la, vs, ls) ?_ (.cons rfl (.cons rfl (.cons rfl .nil))) ?_
   ·have hx55 : ¬ x ≤ 55 := fun h => by simp at hc1; omega
    refine ⟨H23, ?_, ?_⟩
    ·unfold tbLo
     rw [if_neg ZO]
     exact hRa
    unfold tbHi
    rw [if_neg ZO, if_neg hx55]
    exact hRs
   exact (.cons rfl ZN (.cons rfl ZN .nil))
  refine Z09 ?_
  have H24 := St.frontL (l := [_, _, _]) H7
  simp only [Zca, Zna] at H24
  have H25 := St.frontL (l := [_]) H24
  simp only [Zca, Zna] at H25
  have H26 := St.frontL (l := [_, _]) H25
  simp only [Zca, Zna] at H26
  have H27 := St.del (.tail (.tail (.tail .head))) H26
  refine Z0s (va, la, vb, lb) ?_ (.cons rfl (.cons rfl (.cons rfl .nil))) ?_
  ·have hx55 : x ≤ 55 := by simp at hc1; omega
   refine ⟨H27, ?_, ?_⟩
   ·unfold tbLo
    rw [if_neg ZO]
    exact hRa
   unfold tbHi
   rw [if_neg ZO, if_pos hx55]
   exact hRb
  exact (.cons rfl ZN (.cons rfl ZN .nil))
 rintro ⟨va2, la2, vb2, lb2⟩ w28 ⟨H28, hRa2, hRb2⟩
 have hla2 := hRa2.len_lt (k := 129) (show tbLo x < 2 ^ 129 by rw [show (2 : Int) ^ 129 = 680564733841876926926749214863536422912 from by decide]; omega)
 have hlb2 := hRb2.len_lt (k := 129) (show tbHi x < 2 ^ 129 by rw [show (2 : Int) ^ 129 = 680564733841876926926749214863536422912 from by decide]; omega)
 show RunC P _ _ _ (_ :: _) _
 refine Z03 (Z00 (Z0b Z3B rfl rfl rfl ?_))
 refine Z07 H28 mem2 rfl rfl underlying30 rfl rfl rfl ?_
 refine Z17 H28 rfl rfl underlying47 ti30 rfl (.cons rfl ZR .nil) rfl rfl rfl (fun b7_2 w29 H29 => ?_)
 refine Z0N rfl rfl func76 rfl rfl (.cons rfl .nil) (numR _ [man] (U.one ⟨ZO, hman⟩) (by simp) w29 (H29.ibl mem0)) ?_
 rintro vm w30 ⟨_, lm, rfl, hRm, hG⟩
 have H30 := hG _ _ _ _ H29
 simp only [Zca, Zna] at H30
 have hRm2 : R16 lm (man) := by have := hRm; rw [show Ma.vb 18446744073709551616 [man] = man from Z3R _] at this; exact this
 have hlm := hRm2.len_lt (k := 64) (show man < 2 ^ 64 by rw [show (2 : Int) ^ 64 = 18446744073709551616 from by decide]; omega)
 refine Zg (Z02 (Z01 ?_))
 refine Zk [0, 3, 9, 11, 12, 13] ?_
 refine Z03 (Z00 (Zm (Zg (Z02 (Z01 (Z03 (Z03 (Z00 (Z0b Z3C rfl rfl rfl ?_)))))))))
 refine Z07 H30 mem4 rfl rfl underlying4 rfl rfl rfl ?_
 refine Z0q (s := 53) (v' := .bool true) rfl (by rfl) ?_
 refine Z02 (Z01 ?_)
 refine c_cond_t rfl rfl ?_
 refine Z00 (Zm ?_)
 refine Z17 H30 rfl rfl underlying64 ti3 rfl (.cons rfl ZR .nil) rfl rfl rfl (fun b10_1 w31 H31 => ?_)
 refine Z0N rfl rfl func101 rfl rfl (.cons rfl (.cons rfl .nil)) (sumR vm _ lm [1] _ 1 hRm2 R16.one1 ZO (by simp) w31 (H31.io mem1) (H31.ibl mem0)) ?_
 rintro ve w32 ⟨_, le, rfl, hRe, hG⟩
 have H32 := hG _ _ _ _ H31
 simp only [Zca, Zna] at H32
 have hle := hRe.len_lt (k := 65) (show man + 1 < 2 ^ 65 by rw [show (2 : Int) ^ 65 = 36893488147419103232 from by decide]; omega)
 refine Zg (Z02 (Z01 ?_))
 refine Zk [0, 3, 9, 11, 12, 13, 14] ?_
 refine Z03 ?_
 have H33 := H32.drewn
 refine Z2t (n := 13) [Zz,Zz,Zz,Zz,Zz,Zz,Zz,Zz,Zz,Zz,Zz,Zz,Zz] (fun wS => (As.blk b0_0 40 [.bool ng, .int .i64 wd, .int .u64 man, .int .i64 x, .bool true]).ok wS) ZK rfl rfl ?_
 apply Zu (L' := [Zy,Zz,Zz,Zz,Zz,Zz,Zz,Zz,Zz,Zz,Zz,Zz,Zz]) 0 (H33.ok mem6)
 ·intro wS sS
  refine Zm (Z02 ?_)
  exact Z0m rfl
 apply Zu (L' := [Zy,Zy,Zz,Zz,Zz,Zz,Zz,Zz,Zz,Zz,Zz,Zz,Zz]) 1 (H33.ok mem6)
 ·intro wS sS
  refine Zm (Z02 ?_)
  exact Z0m rfl
 apply Zu (L' := [Zy,Zy,Zz,Zy,Zz,Zz,Zz,Zz,Zz,Zz,Zz,Zz,Zz]) 3 (H33.ok mem6)
 ·intro wS sS
  refine Zm (Z02 ?_)
  exact Z0m rfl
 apply Zu (L' := [Zy,Zy,Zz,Zy,Zy,Zz,Zz,Zz,Zz,Zz,Zz,Zz,Zz]) 4 (H33.ok mem6)
 ·intro wS sS
  refine Z0b Z23 rfl rfl rfl (Z02 ?_)
  exact Z0m rfl
 apply Zu (L' := [Zy,Zy,Zz,Zy,Zy,Zy,Zz,Zz,Zz,Zz,Zz,Zz,Zz]) 5 (H33.ok mem6)
 ·intro wS sS
  refine Z07 (Z1x sS) mem0 rfl rfl underlying3 rfl rfl rfl ?_
  refine Z02 ?_
  exact Z0m rfl
 apply Zu (L' := [Zy,Zy,Zz,Zy,Zy,Zy,Zy,Zz,Zz,Zz,Zz,Zz,Zz]) 6 (H33.ok mem6)
 ·intro wS sS
  refine Z0t rfl rfl rfl rfl (Z0h ZO) ?_
  refine Z02 ?_
  exact Z0m rfl
 refine Z0K (L' := [Zy,Zy,Zy,Zy,Zy,Zy,Zy,Zz,Zz,Zz,Zz,Zz,Zz]) 2 ZK rfl rfl ?_
 refine Zc func34 (Z5i vm va2 lm la2 man (tbLo x) hRm2 hRa2 ZO ZO w32.drew (H33.io mem2) (H33.io mem4)) ?_
 rintro vp w34 ⟨_, lp, rfl, hRp, hG⟩
 have H34 := hG _ _ _ _ H33
 simp only [Zca, Zna] at H34
 rw [Int.mul_comm] at hRp
 have hlp := hRp.len_lt (k := 193) (Z3w ZO ZO ZO ZO)
 refine Z02 ?_
 refine Z0D (H34.ok mem7) ?_
 refine Z0K (L' := [Zy,Zy,Zy,Zy,Zy,Zy,Zy,Zy,Zz,Zz,Zz,Zz,Zz]) 7 ZK rfl rfl ?_
 refine Z0N rfl rfl func102 rfl rfl (.cons rfl (.cons rfl .nil)) (Z5w vp lp _ hRp ZO ((entS x).2.1 + x) (by unfold tbE at f5 f6; omega) w34 (St.rows (τ := [As.ri 3 .i64 vp lp]) H34)) ?_
 rintro _ w35 ⟨v1, l1, v2, l2, rfl, hR1, hR2, hX⟩
 have H35 := hX _ _ _ _ H34
 simp only [Zca, Zna] at H35
 have hl1 := hR1.len (k := 8192) (Z4N (by have := Int.mul_pos f7 hm0; omega) (Z3w ZO ZO ZO ZO) f6)
 have hl2 := hR2.len (k := 8192) (by rw [Z3Q]; unfold tbE at f5; omega)
 refine Z02 ?_
 refine Z0D (H35.ok mem8) ?_
 apply Zu (L' := [Zy,Zy,Zy,Zy,Zy,Zy,Zy,Zy,Zy,Zz,Zz,Zz,Zz]) 8 (H35.ok mem8)
 ·intro wS sS
  refine Zm (Z02 ?_)
  exact Z0m rfl
 apply Zu (L' := [Zy,Zy,Zy,Zy,Zy,Zy,Zy,Zy,Zy,Zy,Zz,Zz,Zz]) 9 (H35.ok mem8)
 ·intro wS sS
  refine Zx (Z02 ?_)
  exact Z0m rfl
 apply Zu (L' := [Zy,Zy,Zy,Zy,Zy,Zy,Zy,Zy,Zy,Zy,Zy,Zz,Zz]) 10 (H35.ok mem8)
 ·intro wS sS
  refine Zx (Z02 ?_)
  exact Z0m rfl
 apply Zu (L' := [Zy,Zy,Zy,Zy,Zy,Zy,Zy,Zy,Zy,Zy,Zy,Zy,Zz]) 11 (H35.ok mem8)
 ·intro wS sS
  refine Zg (Z02 ?_)
  exact Z0m rfl
 apply Zu (L' := [Zy,Zy,Zy,Zy,Zy,Zy,Zy,Zy,Zy,Zy,Zy,Zy,Zy]) 12 (H35.ok mem8)
 ·intro wS sS
  refine Zg (Z02 ?_)
  exact Z0m rfl
 refine Z14 ZK ?_
 refine Z01 (Z03 (Z00 (Zm (Zm (Zm ?_)))))
 refine Zc func103 (near3 k d hk v1 v2 l1 l2 (tbLo x * man * 2 ^ (tbE x).toNat) (2 ^ (-(tbE x)).toNat) hR1 hR2 ZO ZO (Ma.pow_pos ZO _) (Int.mul_nonneg (Int.le_of_lt (Int.mul_pos f7 hm0)) (Int.le_of_lt (Ma.pow_pos ZO _))) w35 (H35.io mem1) (H35.io mem0)) ?_
 rintro _ w36 ⟨t1, rfl, ht1, hG⟩
 have H36 := hG _ _ _ _ H35
 simp only [Zca, Zna] at H36
 refine Zm ?_
 refine Zx (Zx (Zx (Zg (Zg (Zg (Z02 (Z01 (Z03 ?_))))))))
 have H37 := H36.drewn
 refine Z2t (n := 13) [Zz,Zz,Zz,Zz,Zz,Zz,Zz,Zz,Zz,Zz,Zz,Zz,Zz] (fun wS => (As.blk b0_0 40 [.bool ng, .int .i64 wd, .int .u64 man, .int .i64 x, .bool true]).ok wS) ZK rfl rfl ?_
 apply Zu (L' := [Zy,Zz,Zz,Zz,Zz,Zz,Zz,Zz,Zz,Zz,Zz,Zz,Zz]) 0 (H37.ok mem8)
 ·intro wS sS
  refine Zm (Z02 ?_)
  exact Z0m rfl
 apply Zu (L' := [Zy,Zy,Zz,Zz,Zz,Zz,Zz,Zz,Zz,Zz,Zz,Zz,Zz]) 1 (H37.ok mem8)
 ·intro wS sS
  refine Zm (Z02 ?_)
  exact Z0m rfl
 apply Zu (L' := [Zy,Zy,Zz,Zy,Zz,Zz,Zz,Zz,Zz,Zz,Zz,Zz,Zz]) 3 (H37.ok mem8)
 ·intro wS sS
  refine Zm (Z02 ?_)
  exact Z0m rfl
 apply Zu (L' := [Zy,Zy,Zz,Zy,Zy,Zz,Zz,Zz,Zz,Zz,Zz,Zz,Zz]) 4 (H37.ok mem8)
 ·intro wS sS
  refine Z0b Z23 rfl rfl rfl (Z02 ?_)
  exact Z0m rfl
 apply Zu (L' := [Zy,Zy,Zz,Zy,Zy,Zy,Zz,Zz,Zz,Zz,Zz,Zz,Zz]) 5 (H37.ok mem8)
 ·intro wS sS
  refine Z07 (Z1x sS) mem0 rfl rfl underlying3 rfl rfl rfl ?_
  refine Z02 ?_
  exact Z0m rfl
 apply Zu (L' := [Zy,Zy,Zz,Zy,Zy,Zy,Zy,Zz,Zz,Zz,Zz,Zz,Zz]) 6 (H37.ok mem8)
 ·intro wS sS
  refine Z0t rfl rfl rfl rfl (Z0h ZO) ?_
  refine Z02 ?_
  exact Z0m rfl
 refine Z0K (L' := [Zy,Zy,Zy,Zy,Zy,Zy,Zy,Zz,Zz,Zz,Zz,Zz,Zz]) 2 ZK rfl rfl ?_
 refine Z0N rfl rfl func34 rfl rfl (.cons rfl (.cons rfl .nil)) (Z5i ve vb2 le lb2 _ (tbHi x) hRe hRb2 ZO ZO w36.drew (H37.io mem2) (H37.io mem7)) ?_
 rintro vh w38 ⟨_, lh, rfl, hRh, hG⟩
 have H38 := hG _ _ _ _ H37
 simp only [Zca, Zna] at H38
 rw [Int.mul_comm] at hRh
 have hlh := hRh.len_lt (k := 193) (Z3w ZO ZO ZO ZO)
 refine Z02 ?_
 refine Z0D (H38.ok mem9) ?_
 refine Z0K (L' := [Zy,Zy,Zy,Zy,Zy,Zy,Zy,Zy,Zz,Zz,Zz,Zz,Zz]) 7 ZK rfl rfl ?_
 refine Z0N rfl rfl func102 rfl rfl (.cons rfl (.cons rfl .nil)) (Z5w vh lh _ hRh ZO ((entS x).2.1 + x) (by unfold tbE at f5 f6; omega) w38 (St.rows (τ := [As.ri 3 .i64 vh lh]) H38)) ?_
 rintro _ w39 ⟨v3, l3, v4, l4, rfl, hR3, hR4, hX⟩
 have H39 := hX _ _ _ _ H38
 simp only [Zca, Zna] at H39
 have hl3 := hR3.len (k := 8192) (Z4N (by have := Int.mul_pos hth (show 0 < (man + 1) by omega); omega) (Z3w ZO ZO ZO ZO) f6)
 have hl4 := hR4.len (k := 8192) (by rw [Z3Q]; unfold tbE at f5; omega)
 refine Z02 ?_
 refine Z0D (H39.ok mem10) ?_
 apply Zu (L' := [Zy,Zy,Zy,Zy,Zy,Zy,Zy,Zy,Zy,Zz,Zz,Zz,Zz]) 8 (H39.ok mem10)
 ·intro wS sS
  refine Zm (Z02 ?_)
  exact Z0m rfl
 apply Zu (L' := [Zy,Zy,Zy,Zy,Zy,Zy,Zy,Zy,Zy,Zy,Zz,Zz,Zz]) 9 (H39.ok mem10)
 ·intro wS sS
  refine Zx (Z02 ?_)
  exact Z0m rfl
 apply Zu (L' := [Zy,Zy,Zy,Zy,Zy,Zy,Zy,Zy,Zy,Zy,Zy,Zz,Zz]) 10 (H39.ok mem10)
 ·intro wS sS
  refine Zx (Z02 ?_)
  exact Z0m rfl
 apply Zu (L' := [Zy,Zy,Zy,Zy,Zy,Zy,Zy,Zy,Zy,Zy,Zy,Zy,Zz]) 11 (H39.ok mem10)
 ·intro wS sS
  refine Zg (Z02 ?_)
  exact Z0m rfl
 apply Zu (L' := [Zy,Zy,Zy,Zy,Zy,Zy,Zy,Zy,Zy,Zy,Zy,Zy,Zy]) 12 (H39.ok mem10)
 ·intro wS sS
  refine Zg (Z02 ?_)
  exact Z0m rfl
 refine Z14 ZK ?_
 refine Z01 ?_
 refine Zk [0, 15, 16, 17, 18] ?_
 refine Z03 (Z00 (Zm (Zm (Zm ?_))))
 refine Zc func103 (near3 k d hk v3 v4 l3 l4 (tbHi x * (man + 1) * 2 ^ (tbE x).toNat) (2 ^ (-(tbE x)).toNat) hR3 hR4 ZO ZO (Ma.pow_pos ZO _) (Int.mul_nonneg (Int.le_of_lt (Int.mul_pos hth ZO)) (Int.le_of_lt (Ma.pow_pos ZO _))) w39 (H39.io mem1) (H39.io mem0)) ?_
 rintro _ w40 ⟨t2, rfl, ht2, hG⟩
 have H40 := hG _ _ _ _ H39
 simp only [Zca, Zna] at H40
 refine Zm ?_
 refine Zx (Zx (Zx (Zg (Zg (Zg (Z02 (Z01 (Z03 (Z00 (Zm (Zm ?_)))))))))))
 refine Zm (Zm (Zg (Zg (Zg (Zg (Z02 (Z01 ?_)))))))
 refine Z0f ?_
 refine Z0p results46 (.tmp rfl (.tmp rfl (.tmp rfl (.tmp rfl .nil)))) rfl ?_
 refine ⟨_, rfl, ?_⟩
 have H51 := St.del .head (St.del (.tail .head) (St.del (.tail (.tail .head)) (St.del (.tail (.tail (.tail .head))) (St.del (.tail (.tail (.tail (.tail .head)))) (St.del (.tail (.tail (.tail (.tail (.tail .head))))) (St.del (.tail (.tail (.tail (.tail (.tail (.tail .head)))))) (St.del (.tail (.tail (.tail (.tail (.tail (.tail (.tail .head))))))) (St.del (.tail (.tail (.tail (.tail (.tail (.tail (.tail (.tail .head)))))))) (St.del (.tail (.tail (.tail (.tail (.tail (.tail (.tail (.tail (.tail .head))))))))) (St.del (.tail (.tail (.tail (.tail (.tail (.tail (.tail (.tail (.tail (.tail .head)))))))))) H40))))))))))
 exact ⟨t1, t2, rfl, ht1, ht2, H51.grows⟩
theorem ends9f (k : Int) (d : Kd) (hk : kd k = some d) (ng : Bool) (wd man x : Int) (hm0 : 0 < man) (hman : man ≤ 18446744073709551615) (hin : inQ x) (w : World) :
  Z0g P 46 [.int .i64 k, .agg #[.bool ng, .int .i64 wd, .int .u64 man, .int .i64 x, .bool false]] w fun r w' => ∃ t1 t2, r = .tuple #[.int .u64 t1.1, .bool (decide (t1.2.2 = 0)), .int .u64 t2.1, .bool (decide (t2.2.2 = 0))] ∧ tabT d (tbLo x * man) x t1 ∧ tabT d (tbHi x * man) x t2 ∧ Grow w w' [] := by
 refine Z0o func46 rfl ntmps46 rfl ?_
 have H0 := St.start w
 have hf := tb_f hin
 have f1 := hf.f1
 have f2 := hf.f2
 have f3 := hf.m
 have f4 := hf.m0
 have f5 := hf.e1
 have f6 := hf.e2
 have f7 := hf.lo
 have f8 := hf.hi
 have f9 := hf.er
 have hin2 := hin
 unfold inQ at hin2
 have htl : tbLo x ≤ 340282366920938463463374607431768211456 := by unfold tbLo; split <;> omega
 have hth : 0 < tbHi x := by unfold tbHi; split; omega; split <;> omega
 refine Z03 (Z00 ?_)
 refine Z2f H0 rfl rfl rfl (fun b0_0 w1 H1 => ?_)
 refine Zg (Zg (Zg (Zg (Z02 (Z01 (Z03 (Z00 (Z0b Z23 rfl rfl rfl ?_))))))))
 refine Z07 H1 mem0 rfl rfl underlying3 rfl rfl rfl ?_
 refine Zc func97 (entryR x ZO w1) ?_
 rintro _ w2 ⟨rfl, hG⟩
 have H2 := hG _ _ _ _ H1
 simp only [Zca, Zna] at H2
 refine Zm ?_
 refine Zx (Zx (Zx ?_))
 refine Z0H H2 Z5a rfl rfl (fun b1_7 w3 H3 => ?_)
 refine Z0a H3 .head (.zero (.zero .nil)) rfl Z1I rfl rfl ZC (fun w4 H4 => ?_)
 refine Zg (Zg (Z02 (Z01 (Z03 ?_))))
 have H5 := H4.drewn
 refine Z2t (n := 6) [Zz,Zz,Zz,Zz,Zz,Zz] (fun wS => (As.blk b1_7 124 (wrow (entS x).1)).ok wS) ZK rfl rfl ?_
 apply Zu (L' := [Zy,Zz,Zz,Zz,Zz,Zz]) 0 (H5.ok mem0)
 ·intro wS sS
  refine Z0e (Z1x sS) mem0 rfl rfl underlying124 rfl Z1I rfl (.take (.take .nil)) ?_
  refine Z02 ?_
  exact Z0m rfl
 apply Zu (L' := [Zy,Zz,Zy,Zz,Zz,Zz]) 2 (H5.ok mem0)
 ·intro wS sS
  refine Z0e (Z1x sS) mem0 rfl rfl underlying124 rfl Z1I rfl (.take (.take .nil)) ?_
  refine Z02 ?_
  exact Z0m rfl
 refine Z0K (L' := [Zy,Zy,Zy,Zz,Zz,Zz]) 1 ZK rfl rfl ?_
 refine Zc func98 (ofR ((entS x).1 / 18446744073709551616) ((entS x).1 % 18446744073709551616) ZO ZO w4.drew) ?_
 rintro va w6 ⟨_, la, rfl, hRa, hG⟩
 have H6 := hG _ _ _ _ H5
 simp only [Zca, Zna] at H6
 rw [Z5h] at hRa
 have hla := hRa.len_lt (k := 128) (show (entS x).1 < 2 ^ 128 by rw [show (2 : Int) ^ 128 = 340282366920938463463374607431768211456 from by decide]; exact f3)
 refine Z02 ?_
 refine Z0D (H6.ok mem1) ?_
 refine Z0K (L' := [Zy,Zy,Zy,Zy,Zz,Zz]) 3 ZK rfl rfl ?_
 refine Zc func98 (ofR ((entS x).1 / 18446744073709551616) ((entS x).1 % 18446744073709551616) ZO ZO w6) ?_
 rintro vb w7 ⟨_, lb, rfl, hRb, hG⟩
 have H7 := hG _ _ _ _ H6
 simp only [Zca, Zna] at H7
 rw [Z5h] at hRb
 have hlb := hRb.len_lt (k := 128) (show (entS x).1 < 2 ^ 128 by rw [show (2 : Int) ^ 128 = 340282366920938463463374607431768211456 from by decide]; exact f3)
 refine Z02 ?_
 refine Z0D (H7.ok mem2) ?_
 apply Zu (L' := [Zy,Zy,Zy,Zy,Zy,Zz]) 4 (H7.ok mem2)
 ·intro wS sS
  refine Zg (Z02 ?_)
  exact Z0m rfl
 apply Zu (L' := [Zy,Zy,Zy,Zy,Zy,Zy]) 5 (H7.ok mem2)
 ·intro wS sS
  refine Zg (Z02 ?_)
  exact Z0m rfl
 refine Z14 ZK ?_
 refine Z01 ?_
 refine Zk [0, 3, 9, 11, 12] ?_
 refine Z0R (ι := Value × List Int × Value × List Int) (fun (z0 : Value × List Int × Value × List Int) (w' : World) => match z0 with | ⟨va2, la2, vb2, lb2⟩ => St w w.heap.size Z0B ([As.ri 3 .i64 va2 la2, As.ri 3 .i64 vb2 lb2, As.blk b0_0 40 [.bool ng, .int .i64 wd, .int .u64 man, .int .i64 x, .bool false]]) w' ∧ R16 la2 (tbLo x) ∧ R16 lb2 (tbHi x)) (fun (z0 : Value × List Int × Value × List Int) => match z0 with | ⟨va2, la2, vb2, lb2⟩ => [(11, va2), (12, vb2)]) [0, 3, 9] (.cons rfl (.cons rfl (.cons rfl .nil))) ?_ ?_
 ·refine Z03 (Z00 (Z0b Z23 rfl rfl rfl ?_))
  refine Z07 H7 mem3 rfl rfl underlying3 rfl rfl rfl ?_
  refine Zl ?_
  refine Z02 (Z01 ?_)
  (first | refine Z08 rfl ?_ ?_ | refine Z05 rfl ?_ ?_) <;> intro hc0
  ·refine Z00 (Zm ?_)
   refine Z17 H7 rfl rfl underlying64 ti3 rfl (.cons rfl ZR .nil) rfl rfl rfl (fun b4_1 w8 H8 => ?_)
   refine Z0N rfl rfl func99 rfl rfl (.cons rfl (.cons rfl .nil)) (lessR va _ la [1] _ 1 hRa R16.one1 ZO (by simp) ZO w8 (H8.io mem2) (H8.ibl mem0)) ?_
   rintro vs w9 ⟨_, ls, rfl, hRs, hG⟩
   have H9 := hG _ _ _ _ H8
   simp only [Zca, Zna] at H9
   refine Zg (Z02 ?_)
   have H10 := St.frontL (l := [_, _, _, _, _]) H9
   simp only [Zca, Zna] at H10
   have H11 := St.frontL (l := [_, _, _]) H10
   simp only [Zca, Zna] at H11
   have H12 := St.frontL (l := [_, _]) H11
   simp only [Zca, Zna] at H12
   have H15 := St.del (.tail (.tail (.tail .head))) (St.del (.tail (.tail (.tail (.tail .head)))) (St.del (.tail (.tail (.tail (.tail (.tail .head))))) H12))
   refine Z0s (vs, ls, vb, lb) ?_ (.cons rfl (.cons rfl (.cons rfl .nil))) ?_
   ·refine ⟨H15, ?_, ?_⟩
    ·unfold tbLo
     rw [if_pos ZO]
     exact hRs
    unfold tbHi
    rw [if_pos ZO]
    exact hRb
   exact (.cons rfl ZN (.cons rfl ZN .nil))
  refine Z03 (Z00 (Z0b Z23 rfl rfl rfl ?_))
  refine Z07 H7 mem3 rfl rfl underlying3 rfl rfl rfl ?_
  refine Zp func100 (exactR6 x _) ?_
  first | refine Z1c rfl rfl rfl ?_ | refine Z1N rfl rfl rfl ?_
  refine Z02 (Z01 ?_)
  (first | refine Z08 rfl ?_ ?_ | refine Z05 rfl ?_ ?_) <;> intro hc1
  ·refine Z00 (Zm ?_)
   refine Z17 H7 rfl rfl underlying64 ti3 rfl (.cons rfl ZR .nil) rfl rfl rfl (fun b6_1 w16 H16 => ?_)
   refine Z0N rfl rfl func101 rfl rfl (.cons rfl (.cons rfl .nil)) (sumR vb _ lb [1] _ 1 hRb R16.one1 ZO (by simp) w16 (H16.io mem1) (H16.ibl mem0)) ?_
   rintro vs w17 ⟨_, ls, rfl, hRs, hG⟩
   have H17 := hG _ _ _ _ H16
   simp only [Zca, Zna] at H17
   refine Zg (Z02 ?_)
   have H18 := St.frontL (l := [_, _, _, _, _]) H17
   simp only [Zca, Zna] at H18
   have H19 := St.frontL (l := [_]) H18
   simp only [Zca, Zna] at H19
   have H20 := St.frontL (l := [_, _, _, _]) H19
   simp only [Zca, Zna] at H20
   have H23 := St.del (.tail (.tail (.tail .head))) (St.del (.tail (.tail (.tail (.tail .head)))) (St.del (.tail (.tail (.tail (.tail (.tail .head))))) H20))
   refine Z0s (va, la, vs, ls) ?_ (.cons rfl (.cons rfl (.cons rfl .nil))) ?_
   ·have hx55 : ¬ x ≤ 55 := fun h => by simp at hc1; omega
    refine ⟨H23, ?_, ?_⟩
    ·unfold tbLo
     rw [if_neg ZO]
     exact hRa
    unfold tbHi
    rw [if_neg ZO, if_neg hx55]
    exact hRs
   exact (.cons rfl ZN (.cons rfl ZN .nil))
  refine Z09 ?_
  have H24 := St.frontL (l := [_, _, _]) H7
  simp only [Zca, Zna] at H24
  have H25 := St.frontL (l := [_]) H24
  simp only [Zca, Zna] at H25
  have H26 := St.frontL (l := [_, _]) H25
  simp only [Zca, Zna] at H26
  have H27 := St.del (.tail (.tail (.tail .head))) H26
  refine Z0s (va, la, vb, lb) ?_ (.cons rfl (.cons rfl (.cons rfl .nil))) ?_
  ·have hx55 : x ≤ 55 := by simp at hc1; omega
   refine ⟨H27, ?_, ?_⟩
   ·unfold tbLo
    rw [if_neg ZO]
    exact hRa
   unfold tbHi
   rw [if_neg ZO, if_pos hx55]
   exact hRb
  exact (.cons rfl ZN (.cons rfl ZN .nil))
 rintro ⟨va2, la2, vb2, lb2⟩ w28 ⟨H28, hRa2, hRb2⟩
 have hla2 := hRa2.len_lt (k := 129) (show tbLo x < 2 ^ 129 by rw [show (2 : Int) ^ 129 = 680564733841876926926749214863536422912 from by decide]; omega)
 have hlb2 := hRb2.len_lt (k := 129) (show tbHi x < 2 ^ 129 by rw [show (2 : Int) ^ 129 = 680564733841876926926749214863536422912 from by decide]; omega)
 show RunC P _ _ _ (_ :: _) _
 refine Z03 (Z00 (Z0b Z3B rfl rfl rfl ?_))
 refine Z07 H28 mem2 rfl rfl underlying30 rfl rfl rfl ?_
 refine Z17 H28 rfl rfl underlying47 ti30 rfl (.cons rfl ZR .nil) rfl rfl rfl (fun b7_2 w29 H29 => ?_)
 refine Z0N rfl rfl func76 rfl rfl (.cons rfl .nil) (numR _ [man] (U.one ⟨ZO, hman⟩) (by simp) w29 (H29.ibl mem0)) ?_
 rintro vm w30 ⟨_, lm, rfl, hRm, hG⟩
 have H30 := hG _ _ _ _ H29
 simp only [Zca, Zna] at H30
 have hRm2 : R16 lm (man) := by have := hRm; rw [show Ma.vb 18446744073709551616 [man] = man from Z3R _] at this; exact this
 have hlm := hRm2.len_lt (k := 64) (show man < 2 ^ 64 by rw [show (2 : Int) ^ 64 = 18446744073709551616 from by decide]; omega)
 refine Zg (Z02 (Z01 ?_))
 refine Zk [0, 3, 9, 11, 12, 13] ?_
 refine Z03 (Z00 (Zm (Zg (Z02 (Z01 (Z03 (Z03 (Z00 (Z0b Z3C rfl rfl rfl ?_)))))))))
 refine Z07 H30 mem4 rfl rfl underlying4 rfl rfl rfl ?_
 refine Z0q (s := 53) (v' := .bool false) rfl (by rfl) ?_
 refine Z02 (Z01 ?_)
 refine Z1D rfl rfl ?_
 refine Z09 (Z01 ?_)
 refine Zk [0, 3, 9, 11, 12, 13, 14] ?_
 refine Z03 ?_
 have H31 := H30.drewn
 refine Z2t (n := 13) [Zz,Zz,Zz,Zz,Zz,Zz,Zz,Zz,Zz,Zz,Zz,Zz,Zz] (fun wS => (As.blk b0_0 40 [.bool ng, .int .i64 wd, .int .u64 man, .int .i64 x, .bool false]).ok wS) ZK rfl rfl ?_
 apply Zu (L' := [Zy,Zz,Zz,Zz,Zz,Zz,Zz,Zz,Zz,Zz,Zz,Zz,Zz]) 0 (H31.ok mem4)
 ·intro wS sS
  refine Zm (Z02 ?_)
  exact Z0m rfl
 apply Zu (L' := [Zy,Zy,Zz,Zz,Zz,Zz,Zz,Zz,Zz,Zz,Zz,Zz,Zz]) 1 (H31.ok mem4)
 ·intro wS sS
  refine Zm (Z02 ?_)
  exact Z0m rfl
 apply Zu (L' := [Zy,Zy,Zz,Zy,Zz,Zz,Zz,Zz,Zz,Zz,Zz,Zz,Zz]) 3 (H31.ok mem4)
 ·intro wS sS
  refine Zm (Z02 ?_)
  exact Z0m rfl
 apply Zu (L' := [Zy,Zy,Zz,Zy,Zy,Zz,Zz,Zz,Zz,Zz,Zz,Zz,Zz]) 4 (H31.ok mem4)
 ·intro wS sS
  refine Z0b Z23 rfl rfl rfl (Z02 ?_)
  exact Z0m rfl
 apply Zu (L' := [Zy,Zy,Zz,Zy,Zy,Zy,Zz,Zz,Zz,Zz,Zz,Zz,Zz]) 5 (H31.ok mem4)
 ·intro wS sS
  refine Z07 (Z1x sS) mem0 rfl rfl underlying3 rfl rfl rfl ?_
  refine Z02 ?_
  exact Z0m rfl
 apply Zu (L' := [Zy,Zy,Zz,Zy,Zy,Zy,Zy,Zz,Zz,Zz,Zz,Zz,Zz]) 6 (H31.ok mem4)
 ·intro wS sS
  refine Z0t rfl rfl rfl rfl (Z0h ZO) ?_
  refine Z02 ?_
  exact Z0m rfl
 refine Z0K (L' := [Zy,Zy,Zy,Zy,Zy,Zy,Zy,Zz,Zz,Zz,Zz,Zz,Zz]) 2 ZK rfl rfl ?_
 refine Zc func34 (Z5i vm va2 lm la2 man (tbLo x) hRm2 hRa2 ZO ZO w30.drew (H31.io mem0) (H31.io mem2)) ?_
 rintro vp w32 ⟨_, lp, rfl, hRp, hG⟩
 have H32 := hG _ _ _ _ H31
 simp only [Zca, Zna] at H32
 rw [Int.mul_comm] at hRp
 have hlp := hRp.len_lt (k := 193) (Z3w ZO ZO ZO ZO)
 refine Z02 ?_
 refine Z0D (H32.ok mem5) ?_
 refine Z0K (L' := [Zy,Zy,Zy,Zy,Zy,Zy,Zy,Zy,Zz,Zz,Zz,Zz,Zz]) 7 ZK rfl rfl ?_
 refine Z0N rfl rfl func102 rfl rfl (.cons rfl (.cons rfl .nil)) (Z5w vp lp _ hRp ZO ((entS x).2.1 + x) (by unfold tbE at f5 f6; omega) w32 (St.rows (τ := [As.ri 3 .i64 vp lp]) H32)) ?_
 rintro _ w33 ⟨v1, l1, v2, l2, rfl, hR1, hR2, hX⟩
 have H33 := hX _ _ _ _ H32
 simp only [Zca, Zna] at H33
 have hl1 := hR1.len (k := 8192) (Z4N (by have := Int.mul_pos f7 hm0; omega) (Z3w ZO ZO ZO ZO) f6)
 have hl2 := hR2.len (k := 8192) (by rw [Z3Q]; unfold tbE at f5; omega)
 refine Z02 ?_
 refine Z0D (H33.ok mem6) ?_
 apply Zu (L' := [Zy,Zy,Zy,Zy,Zy,Zy,Zy,Zy,Zy,Zz,Zz,Zz,Zz]) 8 (H33.ok mem6)
 ·intro wS sS
  refine Zm (Z02 ?_)
  exact Z0m rfl
 apply Zu (L' := [Zy,Zy,Zy,Zy,Zy,Zy,Zy,Zy,Zy,Zy,Zz,Zz,Zz]) 9 (H33.ok mem6)
 ·intro wS sS
  refine Zx (Z02 ?_)
  exact Z0m rfl
 apply Zu (L' := [Zy,Zy,Zy,Zy,Zy,Zy,Zy,Zy,Zy,Zy,Zy,Zz,Zz]) 10 (H33.ok mem6)
 ·intro wS sS
  refine Zx (Z02 ?_)
  exact Z0m rfl
 apply Zu (L' := [Zy,Zy,Zy,Zy,Zy,Zy,Zy,Zy,Zy,Zy,Zy,Zy,Zz]) 11 (H33.ok mem6)
 ·intro wS sS
  refine Zg (Z02 ?_)
  exact Z0m rfl
 apply Zu (L' := [Zy,Zy,Zy,Zy,Zy,Zy,Zy,Zy,Zy,Zy,Zy,Zy,Zy]) 12 (H33.ok mem6)
 ·intro wS sS
  refine Zg (Z02 ?_)
  exact Z0m rfl
 refine Z14 ZK ?_
 refine Z01 (Z03 (Z00 (Zm (Zm (Zm ?_)))))
 refine Zc func103 (near3 k d hk v1 v2 l1 l2 (tbLo x * man * 2 ^ (tbE x).toNat) (2 ^ (-(tbE x)).toNat) hR1 hR2 ZO ZO (Ma.pow_pos ZO _) (Int.mul_nonneg (Int.le_of_lt (Int.mul_pos f7 hm0)) (Int.le_of_lt (Ma.pow_pos ZO _))) w33 (H33.io mem1) (H33.io mem0)) ?_
 rintro _ w34 ⟨t1, rfl, ht1, hG⟩
 have H34 := hG _ _ _ _ H33
 simp only [Zca, Zna] at H34
 refine Zm ?_
 refine Zx (Zx (Zx (Zg (Zg (Zg (Z02 (Z01 (Z03 ?_))))))))
 have H35 := H34.drewn
 refine Z2t (n := 13) [Zz,Zz,Zz,Zz,Zz,Zz,Zz,Zz,Zz,Zz,Zz,Zz,Zz] (fun wS => (As.blk b0_0 40 [.bool ng, .int .i64 wd, .int .u64 man, .int .i64 x, .bool false]).ok wS) ZK rfl rfl ?_
 apply Zu (L' := [Zy,Zz,Zz,Zz,Zz,Zz,Zz,Zz,Zz,Zz,Zz,Zz,Zz]) 0 (H35.ok mem6)
 ·intro wS sS
  refine Zm (Z02 ?_)
  exact Z0m rfl
 apply Zu (L' := [Zy,Zy,Zz,Zz,Zz,Zz,Zz,Zz,Zz,Zz,Zz,Zz,Zz]) 1 (H35.ok mem6)
 ·intro wS sS
  refine Zm (Z02 ?_)
  exact Z0m rfl
 apply Zu (L' := [Zy,Zy,Zz,Zy,Zz,Zz,Zz,Zz,Zz,Zz,Zz,Zz,Zz]) 3 (H35.ok mem6)
 ·intro wS sS
  refine Zm (Z02 ?_)
  exact Z0m rfl
 apply Zu (L' := [Zy,Zy,Zz,Zy,Zy,Zz,Zz,Zz,Zz,Zz,Zz,Zz,Zz]) 4 (H35.ok mem6)
 ·intro wS sS
  refine Z0b Z23 rfl rfl rfl (Z02 ?_)
  exact Z0m rfl
 apply Zu (L' := [Zy,Zy,Zz,Zy,Zy,Zy,Zz,Zz,Zz,Zz,Zz,Zz,Zz]) 5 (H35.ok mem6)
 ·intro wS sS
  refine Z07 (Z1x sS) mem0 rfl rfl underlying3 rfl rfl rfl ?_
  refine Z02 ?_
  exact Z0m rfl
 apply Zu (L' := [Zy,Zy,Zz,Zy,Zy,Zy,Zy,Zz,Zz,Zz,Zz,Zz,Zz]) 6 (H35.ok mem6)
 ·intro wS sS
  refine Z0t rfl rfl rfl rfl (Z0h ZO) ?_
  refine Z02 ?_
  exact Z0m rfl
 refine Z0K (L' := [Zy,Zy,Zy,Zy,Zy,Zy,Zy,Zz,Zz,Zz,Zz,Zz,Zz]) 2 ZK rfl rfl ?_
 refine Z0N rfl rfl func34 rfl rfl (.cons rfl (.cons rfl .nil)) (Z5i vm vb2 lm lb2 _ (tbHi x) hRm2 hRb2 ZO ZO w34.drew (H35.io mem2) (H35.io mem5)) ?_
 rintro vh w36 ⟨_, lh, rfl, hRh, hG⟩
 have H36 := hG _ _ _ _ H35
 simp only [Zca, Zna] at H36
 rw [Int.mul_comm] at hRh
 have hlh := hRh.len_lt (k := 193) (Z3w ZO ZO ZO ZO)
 refine Z02 ?_
 refine Z0D (H36.ok mem7) ?_
 refine Z0K (L' := [Zy,Zy,Zy,Zy,Zy,Zy,Zy,Zy,Zz,Zz,Zz,Zz,Zz]) 7 ZK rfl rfl ?_
 refine Z0N rfl rfl func102 rfl rfl (.cons rfl (.cons rfl .nil)) (Z5w vh lh _ hRh ZO ((entS x).2.1 + x) (by unfold tbE at f5 f6; omega) w36 (St.rows (τ := [As.ri 3 .i64 vh lh]) H36)) ?_
 rintro _ w37 ⟨v3, l3, v4, l4, rfl, hR3, hR4, hX⟩
 have H37 := hX _ _ _ _ H36
 simp only [Zca, Zna] at H37
 have hl3 := hR3.len (k := 8192) (Z4N (by have := Int.mul_pos hth (show 0 < man by omega); omega) (Z3w ZO ZO ZO ZO) f6)
 have hl4 := hR4.len (k := 8192) (by rw [Z3Q]; unfold tbE at f5; omega)
 refine Z02 ?_
 refine Z0D (H37.ok mem8) ?_
 apply Zu (L' := [Zy,Zy,Zy,Zy,Zy,Zy,Zy,Zy,Zy,Zz,Zz,Zz,Zz]) 8 (H37.ok mem8)
 ·intro wS sS
  refine Zm (Z02 ?_)
  exact Z0m rfl
 apply Zu (L' := [Zy,Zy,Zy,Zy,Zy,Zy,Zy,Zy,Zy,Zy,Zz,Zz,Zz]) 9 (H37.ok mem8)
 ·intro wS sS
  refine Zx (Z02 ?_)
  exact Z0m rfl
 apply Zu (L' := [Zy,Zy,Zy,Zy,Zy,Zy,Zy,Zy,Zy,Zy,Zy,Zz,Zz]) 10 (H37.ok mem8)
 ·intro wS sS
  refine Zx (Z02 ?_)
  exact Z0m rfl
 apply Zu (L' := [Zy,Zy,Zy,Zy,Zy,Zy,Zy,Zy,Zy,Zy,Zy,Zy,Zz]) 11 (H37.ok mem8)
 ·intro wS sS
  refine Zg (Z02 ?_)
  exact Z0m rfl
 apply Zu (L' := [Zy,Zy,Zy,Zy,Zy,Zy,Zy,Zy,Zy,Zy,Zy,Zy,Zy]) 12 (H37.ok mem8)
 ·intro wS sS
  refine Zg (Z02 ?_)
  exact Z0m rfl
 refine Z14 ZK ?_
 refine Z01 ?_
 refine Zk [0, 15, 16, 17, 18] ?_
 refine Z03 (Z00 (Zm (Zm (Zm ?_))))
 refine Zc func103 (near3 k d hk v3 v4 l3 l4 (tbHi x * man * 2 ^ (tbE x).toNat) (2 ^ (-(tbE x)).toNat) hR3 hR4 ZO ZO (Ma.pow_pos ZO _) (Int.mul_nonneg (Int.le_of_lt (Int.mul_pos hth ZO)) (Int.le_of_lt (Ma.pow_pos ZO _))) w37 (H37.io mem1) (H37.io mem0)) ?_
 rintro _ w38 ⟨t2, rfl, ht2, hG⟩
 have H38 := hG _ _ _ _ H37
 simp only [Zca, Zna] at H38
 refine Zm ?_
 refine Zx (Zx (Zx (Zg (Zg (Zg (Z02 (Z01 (Z03 (Z00 (Zm (Zm ?_)))))))))))
 refine Zm (Zm (Zg (Zg (Zg (Zg (Z02 (Z01 ?_)))))))
 refine Z0f ?_
 refine Z0p results46 (.tmp rfl (.tmp rfl (.tmp rfl (.tmp rfl .nil)))) rfl ?_
 refine ⟨_, rfl, ?_⟩
 have H47 := St.del .head (St.del (.tail .head) (St.del (.tail (.tail .head)) (St.del (.tail (.tail (.tail .head))) (St.del (.tail (.tail (.tail (.tail .head)))) (St.del (.tail (.tail (.tail (.tail (.tail .head))))) (St.del (.tail (.tail (.tail (.tail (.tail (.tail .head)))))) (St.del (.tail (.tail (.tail (.tail (.tail (.tail (.tail .head))))))) (St.del (.tail (.tail (.tail (.tail (.tail (.tail (.tail (.tail .head)))))))) H38))))))))
 exact ⟨t1, t2, rfl, ht1, ht2, H47.grows⟩
theorem ends9 (k : Int) (d : Kd) (hk : kd k = some d) (ng : Bool) (wd man x : Int) (more : Bool) (hm0 : 0 < man) (hman : man ≤ 18446744073709551615) (hin : inQ x) (w : World) : Z0g P 46 [.int .i64 k, .agg #[.bool ng, .int .i64 wd, .int .u64 man, .int .i64 x, .bool more]] w fun r w' =>
  ∃ t1 t2, r = .tuple #[.int .u64 t1.1, .bool (decide (t1.2.2 = 0)), .int .u64 t2.1, .bool (decide (t2.2.2 = 0))] ∧ tabT d (tbLo x * man) x t1 ∧ tabT d (tbHi x * mrF man more) x t2 ∧ Grow w w' [] := by
 cases more with
 | true => exact ends9t k d hk ng wd man x hm0 hman hin w
 | false => exact ends9f k d hk ng wd man x hm0 hman hin w
theorem with9' (k : Int) (d : Kd) (hk : kd k = some d) (t : Int × Bool × Int) (hb : (t.2.2 = 0 ∧ 0 ≤ t.1 ∧ t.1 < d.I) ∨ (t.1 = 0 ∧ t.2.2 = 34)) (ng : Bool) (w : World) : Z0g P 48 [.int .i64 k, .int .u64 t.1, .bool ng] w fun r w' => r = .int .u64 (sgF d ng t.1) ∧ w = w' :=
 with9 k d hk t.1 (by have := d.I_lt; omega) ng w
theorem agree9 {d : Kd} {man x : Int} {more : Bool} {t1 t2 : Int × Bool × Int} (k1 : tabT d (tbLo x * man) x t1) (k2 : tabT d (tbHi x * mrF man more) x t2) : agP d man x more ↔ (decide (t1.2.2 = 0) = decide (t2.2.2 = 0) ∧ t1.1 = t2.1) := by
 rw [agP.iff k1 k2]
 have b1 := RndR.bits k1
 have b2 := RndR.bits k2
 rw [decide_eq_decide]
 constructor
 ·rintro ⟨h1, h2⟩; exact ⟨ZO, h2⟩
 rintro ⟨h1, h2⟩; exact ⟨ZO, h2⟩
theorem float9 (k : Int) (v : Value) (t : L8) (hLt : t.length ≤ 1099511627776) (w : World) (hv : IB w v t) :
  Z0g P 17 [.int .i64 k, v] w fun r w' => ∃ bb road place e, r = .tuple #[.int .u64 bb, .int .i64 road, .int .i64 place, .int .i64 e] ∧ FlR t k bb road place e ∧ Grow w w' [] := by
 refine Z0o func17 rfl ntmps17 rfl ?_
 have H0 := St.start w
 refine Z03 (Z00 (Zg (Zg (Zg (Zg (Z02 (Z01 (Z03 (Z03 (Z00 (Zm ?_)))))))))))
 refine Zp func43 (check3 k 0 ZO w) ?_
 refine Zg (Z02 (Z01 (Z03 (Z00 (Zm ?_)))))
 refine Zo ?_
 refine Z02 (Z01 ?_)
 refine Zk [0, 1, 8, 22] ?_
 (first | refine Z08 rfl ?_ ?_ | refine Z05 rfl ?_ ?_) <;> intro hc0
 ·have hno : kd k = none ∧ chk k 0 = 30 := by
   rcases chk0 k with h | ⟨_, _, h⟩
   ·exact h
   rw [h] at hc0; exact absurd rfl hc0
  refine Z03 (Z00 (Zm (Zg (Zg (Zg (Zg (Z02 (Z01 ?_))))))))
  refine Z0f ?_
  refine Z06 ?_
  refine Z0p results17 (.tmp rfl (.tmp rfl (.tmp rfl (.tmp rfl .nil)))) rfl ?_
  refine ⟨_, rfl, ?_⟩
  exact ⟨0, 0, 0, _, rfl, by rw [hno.2]; exact .kind hno.1, H0.grows⟩
 obtain ⟨d, hk, _⟩ : ∃ d, kd k = some d ∧ chk k 0 = 0 := by
  rcases chk0 k with ⟨_, h⟩ | h
  ·rw [h] at hc0; exact absurd (show ¬ (30 : Int) = 0 by decide) hc0
  exact h
 refine Z09 (Z01 (Z03 (Z00 (Zm ?_))))
 refine Z0N rfl rfl func27 rfl rfl (.cons rfl .nil) (scan8 _ t hLt w (H0.iarg hv)) ?_
 rintro _ w1 ⟨ng, wd, man, x, more, p, e, rfl, hsc, hG⟩
 have H1 := hG _ _ _ _ H0
 simp only [Zca, Zna] at H1
 refine Zm ?_
 refine Zx (Zx (Zx ?_))
 refine Z0H H1 ta40 rfl rfl (fun b4_6 w2 H2 => ?_)
 refine Z0a H2 .head (.zero (.zero (.zero (.zero (.zero .nil))))) rfl tz40 rfl rfl ZC (fun w3 H3 => ?_)
 refine Zg (Zg (Z02 (Z01 ?_)))
 refine Zk [0, 1, 9, 10, 11] ?_
 refine Z03 (Z03 (Z00 (Zm ?_)))
 refine Zo ?_
 refine Z02 (Z01 ?_)
 (first | refine Z08 rfl ?_ ?_ | refine Z05 rfl ?_ ?_) <;> intro hc1
 ·refine Z03 (Z00 (Zm (Zm (Zg (Zg (Zg (Zg (Z02 (Z01 ?_)))))))))
  refine Z0f ?_
  refine Z06 ?_
  refine Z0p results17 (.tmp rfl (.tmp rfl (.tmp rfl (.tmp rfl .nil)))) rfl ?_
  refine ⟨_, rfl, ?_⟩
  have H4 := St.del .head H3
  exact ⟨0, 0, p, e, rfl, .err hk hsc ZA, H4.grows⟩
 have he0 : e = 0 := by omega
 subst he0
 have hbd := hsc.bds
 have hp0 := hsc.pos0
 subst hp0
 refine Z09 (Z01 ?_)
 refine Zk [0, 1, 9] ?_
 refine Z03 (Z03 (Z00 (Z0b Z5J rfl rfl rfl ?_)))
 refine Z07 H3 mem0 rfl rfl underlying3 rfl rfl rfl ?_
 refine Zo ?_
 refine Zm ?_
 apply l_or 3 [0, 1, 9] rfl rfl (.cons rfl (.cons rfl (.cons rfl (.cons rfl .nil)))) rfl rfl (fun _ => rfl) rfl rfl rfl
 ·intro hg7_4
  refine Z0b Z3B rfl rfl rfl ?_
  refine Z07 H3 mem0 rfl rfl underlying30 rfl rfl rfl ?_
  refine Ze ?_
  refine Z02 ?_
  exact Z0n rfl (.cons rfl (ZF hg7_4) (.cons rfl rfl (.cons rfl rfl (.cons rfl rfl .nil))))
 refine Z02 (Z01 ?_)
 (first | refine Z08 rfl ?_ ?_ | refine Z05 rfl ?_ ?_) <;> intro hc2
 ·refine Z03 (Z00 (Zm ?_))
  refine Z0e H3 mem0 rfl rfl underlying40 rfl tz40 rfl (.take (.take (.take (.take (.take .nil))))) ?_
  refine Zc func44 (special9 k d hk ng wd man x more w3) ?_
  rintro _ w5 ⟨rfl, hG⟩
  have H5 := hG _ _ _ _ H3
  simp only [Zca, Zna] at H5
  refine Zg (Zg (Zg (Zg (Z02 (Z01 ?_)))))
  refine Z0f ?_
  refine Z06 ?_
  refine Z0p results17 (.tmp rfl (.tmp rfl (.tmp rfl (.tmp rfl .nil)))) rfl ?_
  refine ⟨_, rfl, ?_⟩
  have H6 := St.del .head H5
  exact ⟨_, 1, 0, 0, rfl, .word hk hsc ZA, H6.grows⟩
 have hnw : ¬ wdP wd man := hc2
 have hm0 : 0 < man := by unfold wdP at hnw; omega
 obtain ⟨Ln, q, xx, hnum⟩ := num_any hsc
 have hN := hnum hnw
 refine Z09 (Z01 ?_)
 refine Zk [0, 1, 9] ?_
 refine Z03 (Z00 (Zg (Z02 (Z01 ?_))))
 refine Z0R (ι := Int) (fun (road : Int) (w' : World) => St w w.heap.size Z0B ([As.blk b4_6 40 [.bool ng, .int .i64 wd, .int .u64 man, .int .i64 x, .bool more]]) w' ∧ road = Z4M d k man x more) (fun (road : Int) => [(12, .int .i64 road)]) [0, 1, 9] (.cons rfl (.cons rfl (.cons rfl .nil))) ?_ ?_
 ·refine Z03 (Z00 (Zm ?_))
  refine Z0e H3 mem0 rfl rfl underlying40 rfl tz40 rfl (.take (.take (.take (.take (.take .nil))))) ?_
  refine Zc func45 (isShort9 k ng wd man x more w3) ?_
  rintro _ w7 ⟨rfl, hG⟩
  have H7 := hG _ _ _ _ H3
  simp only [Zca, Zna] at H7
  refine Z02 (Z01 ?_)
  (first | refine Z08 rfl ?_ ?_ | refine Z05 rfl ?_ ?_) <;> intro hc3
  ·refine Z00 (Zg (Z02 ?_))
   refine Z0s (2) ?_ (.cons rfl (.cons rfl (.cons rfl .nil))) ?_
   ·exact ⟨H7, (roadS_2 ZA).symm⟩
   exact (.cons rfl ZN .nil)
  refine Z03 (Z00 (Z0b Z23 rfl rfl rfl ?_))
  refine Z07 H7 mem0 rfl rfl underlying3 rfl rfl rfl ?_
  refine Zh ?_
  refine Zm ?_
  apply Z13 3 [0, 1, 9, 12] rfl rfl (.cons rfl (.cons rfl (.cons rfl (.cons rfl (.cons rfl .nil))))) rfl rfl (fun _ => rfl) rfl rfl rfl
  ·intro hg12_4
   refine Z0b Z23 rfl rfl rfl ?_
   refine Z07 H7 mem0 rfl rfl underlying3 rfl rfl rfl ?_
   refine Zf ?_
   refine Z02 ?_
   exact Z0n rfl (.cons rfl (ZT hg12_4) (.cons rfl rfl (.cons rfl rfl (.cons rfl rfl (.cons rfl rfl .nil)))))
  refine Z02 (Z01 ?_)
  (first | refine Z08 rfl ?_ ?_ | refine Z05 rfl ?_ ?_) <;> intro hc4
  ·have hx : inQ x := hc4
   refine Z03 (Z00 (Zm ?_))
   refine Z0e H7 mem0 rfl rfl underlying40 rfl tz40 rfl (.take (.take (.take (.take (.take .nil))))) ?_
   refine Zc func46 (ends9 k d hk ng wd man x more hm0 hbd.2.1 hx w7) ?_
   rintro _ w8 ⟨t1, t2, rfl, hk1, hk2, hG⟩
   have H8 := hG _ _ _ _ H7
   simp only [Zca, Zna] at H8
   refine Zm ?_
   refine Zx (Zx (Zx (Zx (Zg (Zg (Zg (Zg (Z02 (Z01 ?_)))))))))
   refine Zk [0, 1, 9, 12, 13, 14, 15, 16] ?_
   refine Z03 (Z00 (Zm (Zm ?_)))
   refine l_eqlb underlying4 rfl rfl rfl rfl ?_
   refine Zm ?_
   apply Z13 3 [0, 1, 9, 12] rfl rfl (.cons rfl (.cons rfl (.cons rfl (.cons rfl (.cons rfl .nil))))) rfl rfl (fun _ => rfl) rfl rfl rfl
   ·intro hg14_4
    refine Zm (Zm ?_)
    refine Ze ?_
    refine Z02 ?_
    exact Z0n rfl (.cons rfl (ZT hg14_4) (.cons rfl rfl (.cons rfl rfl (.cons rfl rfl (.cons rfl rfl .nil)))))
   refine Z02 (Z01 ?_)
   (first | refine Z08 rfl ?_ ?_ | refine Z05 rfl ?_ ?_) <;> intro hc5
   ·refine Z00 (Zg (Z02 ?_))
    refine Z0s (3) ?_ (.cons rfl (.cons rfl (.cons rfl .nil))) ?_
    ·exact ⟨H8, (Z5H ZA hx ((agree9 hk1 hk2).2 ZA)).symm⟩
    exact (.cons rfl ZN .nil)
   refine Z09 ?_
   refine Z0s (4) ?_ (.cons rfl (.cons rfl (.cons rfl .nil))) ?_
   ·exact ⟨H8, (Z5K ZA fun _ h => absurd ((agree9 hk1 hk2).1 h) ZA).symm⟩
   exact (.cons rfl ZN .nil)
  refine Z09 ?_
  refine Z0s (4) ?_ (.cons rfl (.cons rfl (.cons rfl .nil))) ?_
  ·exact ⟨H7, (Z5K ZA fun h => absurd h ZA).symm⟩
  exact (.cons rfl ZN .nil)
 rintro road w9 ⟨H9, hroad⟩
 subst hroad
 show RunC P _ _ _ (_ :: _) _
 refine Z03 (Z00 (Zm (Zm ?_)))
 refine Zc func47 (exactly9 k d hk v t hLt man x more Ln q xx hN w9 (H9.iarg hv)) ?_
 rintro _ w10 ⟨tt, htt, rfl, hG⟩
 have H10 := hG _ _ _ _ H9
 simp only [Zca, Zna] at H10
 refine Zm ?_
 refine Zx (Zx (Zg (Zg (Z02 (Z01 (Z03 (Z03 (Z00 (Zm ?_)))))))))
 first | refine Z1c rfl rfl rfl ?_ | refine Z1N rfl rfl rfl ?_
 refine Z02 (Z01 ?_)
 refine Zk [0, 9, 12, 17, 79] ?_
 (first | refine Z08 rfl ?_ ?_ | refine Z05 rfl ?_ ?_) <;> intro hc6
 ·refine Z03 (Z00 (Zm (Zg (Zg (Zg (Zg (Z02 (Z01 ?_))))))))
  refine Z0f ?_
  refine Z06 ?_
  refine Z0p results17 (.tmp rfl (.tmp rfl (.tmp rfl (.tmp rfl .nil)))) rfl ?_
  refine ⟨_, rfl, ?_⟩
  have H11 := St.del .head H10
  have hb := RndR.bits htt
  have h0 : ¬ tt.2.2 = 0 := by assumption
  refine ⟨0, _, 0, 90, rfl, ?_, H11.grows⟩
  have hF := FlR.num (ng := ng) hk hsc hnw hN.ex htt
  rw [if_neg h0, if_neg h0] at hF
  exact hF
 refine Z09 (Z01 (Z03 (Z00 (Zm (Zm (Z0b Z3F rfl rfl rfl ?_))))))
 refine Z07 H10 mem0 rfl rfl underlying4 rfl rfl rfl ?_
 refine Zp func48 (with9' k d hk tt (RndR.bits htt) ng _) ?_
 refine Zm (Zg (Zg (Zg (Zg (Z02 (Z01 ?_))))))
 refine Zk [4, 5, 6, 7] ?_
 refine Z0f ?_
 refine Z0p results17 (.tmp rfl (.tmp rfl (.tmp rfl (.tmp rfl .nil)))) rfl ?_
 refine ⟨_, rfl, ?_⟩
 have H12 := St.del .head H10
 have h0 : tt.2.2 = 0 := Classical.not_not.1 ZA
 refine ⟨_, _, 0, 0, rfl, ?_, H12.grows⟩
 have hF := FlR.num (ng := ng) hk hsc hnw hN.ex htt
 rw [if_pos h0, if_pos h0] at hF
 exact hF
theorem byExact9 (k : Int) (v : Value) (t : L8) (hLt : t.length ≤ 1099511627776) (w : World) (hv : IB w v t) :
  Z0g P 23 [.int .i64 k, v] w fun r w' => ∃ bb road place e, r = .tuple #[.int .u64 bb, .int .i64 e] ∧ FlR t k bb road place e ∧ Grow w w' [] := by
 refine Z0o func23 rfl ntmps23 rfl ?_
 have H0 := St.start w
 refine Z03 (Z00 (Zg (Zg (Z02 (Z01 (Z03 (Z00 (Zm (Zm ?_)))))))))
 refine Zc func17 (float9 k v t hLt w (H0.iarg hv)) ?_
 rintro _ w1 ⟨bb, road, place, e, rfl, hF, hG⟩
 have H1 := hG _ _ _ _ H0
 simp only [Zca, Zna] at H1
 refine Zm ?_
 refine Zx (Zx (Zx (Zx (Zg (Zg (Zg (Zg (Z02 (Z01 (Z03 (Z00 ?_)))))))))))
 refine Zm (Zm (Zg (Zg (Z02 (Z01 ?_)))))
 refine Zk [4, 5] ?_
 refine Z0f ?_
 refine Z0x results23 rfl rfl ?_
 refine ⟨_, rfl, ?_⟩
 exact ⟨bb, road, place, e, rfl, hF, H1.grows⟩
theorem need9 (k : Int) (v : Value) (t : L8) (hLt : t.length ≤ 1099511627776) (w : World) (hv : IB w v t) :
  Z0g P 25 [.int .i64 k, v] w fun r w' => ∃ o, r = .tuple #[.int .i64 (needS o), .bool o.isSome] ∧ Z1W t k o ∧ Grow w w' [] := by
 refine Z0o func25 rfl ntmps25 rfl ?_
 have H0 := St.start w
 refine Z03 (Z00 (Zg (Zg (Z02 (Z01 (Z03 (Z03 (Z00 (Zm ?_)))))))))
 refine Zp func43 (check3 k 0 ZO w) ?_
 refine Zo ?_
 refine Z02 (Z01 ?_)
 (first | refine Z08 rfl ?_ ?_ | refine Z05 rfl ?_ ?_) <;> intro hc0
 ·have hno : kd k = none ∧ chk k 0 = 30 := by
   rcases chk0 k with h | ⟨_, _, h⟩
   ·exact h
   rw [h] at hc0; exact absurd rfl hc0
  refine Z03 (Z00 (Zg (Zg (Z02 (Z01 ?_)))))
  refine Zk [4, 5] ?_
  refine Z0f ?_
  refine Z06 ?_
  refine Z0x results25 rfl rfl ?_
  refine ⟨_, rfl, ?_⟩
  exact ⟨none, rfl, .kind hno.1, H0.grows⟩
 obtain ⟨d, hk, _⟩ : ∃ d, kd k = some d ∧ chk k 0 = 0 := by
  rcases chk0 k with ⟨_, h⟩ | h
  ·rw [h] at hc0; exact absurd (show ¬ (30 : Int) = 0 by decide) hc0
  exact h
 refine Z09 (Z01 (Z03 (Z00 (Zm ?_))))
 refine Z0N rfl rfl func27 rfl rfl (.cons rfl .nil) (scan8 _ t hLt w (H0.iarg hv)) ?_
 rintro _ w1 ⟨ng, wd, man, x, more, p, e, rfl, hsc, hG⟩
 have H1 := hG _ _ _ _ H0
 simp only [Zca, Zna] at H1
 refine Zm ?_
 refine Zx (Zx (Zx ?_))
 refine Z0H H1 ta40 rfl rfl (fun b3_6 w2 H2 => ?_)
 refine Z0a H2 .head (.zero (.zero (.zero (.zero (.zero .nil))))) rfl tz40 rfl rfl ZC (fun w3 H3 => ?_)
 refine Zg (Zg (Z02 (Z01 (Z03 (Z03 (Z00 (Zm ?_)))))))
 refine Zo ?_
 refine Zm ?_
 apply l_or 3 [0, 6] rfl rfl (.cons rfl (.cons rfl (.cons rfl .nil))) rfl rfl (fun _ => rfl) rfl rfl rfl
 ·intro hg4_3
  refine Z0b Z5J rfl rfl rfl ?_
  refine Z07 H3 mem0 rfl rfl underlying3 rfl rfl rfl ?_
  refine Zo ?_
  refine Z02 ?_
  exact Z0n rfl (.cons rfl (ZF hg4_3) (.cons rfl rfl (.cons rfl rfl .nil)))
 refine Zm ?_
 apply l_or 3 [0, 6] rfl rfl (.cons rfl (.cons rfl (.cons rfl .nil))) rfl rfl (fun _ => rfl) rfl rfl rfl
 ·intro hg4_8
  refine Z0b Z3B rfl rfl rfl ?_
  refine Z07 H3 mem0 rfl rfl underlying30 rfl rfl rfl ?_
  refine Ze ?_
  refine Z02 ?_
  exact Z0n rfl (.cons rfl (ZF hg4_8) (.cons rfl rfl (.cons rfl rfl .nil)))
 refine Zm ?_
 apply l_orS H3 3 [6] rfl rfl (.cons rfl (.cons rfl .nil)) rfl rfl (fun _ => rfl) rfl rfl rfl
 ·intro hg4_13
  refine Zm ?_
  refine Z0e H3 mem0 rfl rfl underlying40 rfl tz40 rfl (.take (.take (.take (.take (.take .nil))))) ?_
  refine Zc func45 (isShort9 k ng wd man x more w3) ?_
  rintro _ w4 ⟨rfl, hG⟩
  have H4 := hG _ _ _ _ H3
  simp only [Zca, Zna] at H4
  refine Z02 ?_
  exact Z4s H4 rfl (.cons rfl (ZF hg4_13) (.cons rfl rfl .nil))
 intro w5 H5
 refine Z02 (Z01 ?_)
 refine Zk [6, 37] ?_
 (first | refine Z08 rfl ?_ ?_ | refine Z05 rfl ?_ ?_) <;> intro hc1
 ·refine Z03 (Z00 (Zg (Zg (Z02 (Z01 ?_)))))
  refine Z0f ?_
  refine Z06 ?_
  refine Z0x results25 rfl rfl ?_
  refine ⟨_, rfl, ?_⟩
  have H6 := St.del .head H5
  refine ⟨none, rfl, ?_, H6.grows⟩
  by_cases he : e = 0
  ·subst he
   by_cases hw' : wdP wd man
   ·exact .word hk hsc hw'
   by_cases hs : shP k man x more
   ·exact .short hk hsc hw' hs
   exfalso
   unfold wdP at hw'
   rcases hc1 with h | h
   ·omega
   exact hs h
  exact .err hk hsc he
 have he0 : e = 0 := by omega
 subst he0
 have hbd := hsc.bds
 have hnw : ¬ wdP wd man := fun h => hc1 (by unfold wdP at h; omega)
 have hns : ¬ shP k man x more := fun h => hc1 (.inr h)
 refine Z09 (Z01 (Z03 (Z00 (Z0b Z23 rfl rfl rfl ?_))))
 refine Z07 H5 mem0 rfl rfl underlying3 rfl rfl rfl ?_
 refine Zp func66 (whereR x ZO _) ?_
 refine Zm ?_
 refine Zx (Zx (Zx (Zg (Zg (Zg (Z02 (Z01 ?_)))))))
 refine Zk [9, 11] ?_
 refine Z03 (Z00 (Zm (Zm ?_)))
 refine Ze ?_
 refine Zg (Zg (Z02 (Z01 ?_)))
 refine Z0f ?_
 refine Z0x results25 rfl rfl ?_
 refine ⟨_, rfl, ?_⟩
 have H7 := St.del .head H5
 by_cases hx : inQ x
 ·refine ⟨some x, ?_, .ask hk hsc hnw hns hx, H7.grows⟩
  rw [where_e x, if_pos hx]
  rfl
 refine ⟨none, ?_, .far hk hsc hnw hns hx, H7.grows⟩
 rw [where_e x, if_neg hx]
 have h1 : (Z1s x).1 = 0 := by
  unfold Z1s
  unfold inQ at hx
  rw [if_pos ZO]
 rw [h1]
 rfl
end Go.Proofs.YtjcbdogohjafdaaGreat.W
