/- walks of parse: Float, Exact, Need -/
import Derived.Test.YtgjgahmhoflgcaaGreatDoorQa
set_option linter.unusedVariables false
set_option linter.unusedSimpArgs false
set_option maxRecDepth 10000
namespace Go.Proofs.YtgjgahmhoflgcaaGreatDoor.W
open Go.Vc Go.RowKit Tryz
def mayP (i : Nat) (k wd man x : Int) (more : Bool) : Prop := (i = 0 → wdP wd man) ∧ (i = 1 → shP k man x more) ∧ (i = 2 → inQ x)
instance (i : Nat) (k wd man x : Int) (more : Bool) : Decidable (mayP i k wd man x more) := by unfold mayP; infer_instance
theorem mayC (i : Nat) (hi : i < 4) (cp A : Option Addr) (tl tc : Nat) (k wd man x : Int) (ng more : Bool) (w : World) : VCall P (mayV i) [.agg #[.pointer cp, .int .i64 k, .slice A tl tc, .bool ng, .int .i64 wd, .int .u64 man, .int .i64 x, .bool more]] w fun r w' => r = .bool (decide (mayP i k wd man x more)) ∧ Grow w w' [] := by
 have key : ∀ {q : Prop} [Decidable q] {r : Value} {w' : World}, (q ↔ mayP i k wd man x more) → r = .bool (decide q) ∧ Grow w w' [] → r = .bool (decide (mayP i k wd man x more)) ∧ Grow w w' [] := fun h1 h2 => by
  rw [← decide_eq_decide.2 h1]
  exact h2
 rcases (show i = 0 ∨ i = 1 ∨ i = 2 ∨ i = 3 by omega) with rfl | rfl | rfl | rfl
 ·exact ⟨_, _, _, rfl, func138, rfl, rfl, (wordP cp A tl tc k wd man x ng more w).mono fun r w' h => key (by unfold mayP; simp) h⟩
 ·exact ⟨_, _, _, rfl, func139, rfl, rfl, (shortP cp A tl tc k wd man x ng more w).mono fun r w' h => key (by unfold mayP; simp) h⟩
 ·exact ⟨_, _, _, rfl, func140, rfl, rfl, (tabledP cp A tl tc k wd man x ng more w).mono fun r w' h => key (by unfold mayP; simp) h⟩
 exact ⟨_, _, _, rfl, func200, rfl, rfl, (roads2P cp A tl tc k wd man x ng more w).mono fun r w' h => ⟨by rw [h.1, decide_eq_true (show mayP 3 k wd man x more by unfold mayP; simp)], h.2⟩⟩
def GoP (t : L8) (i : Nat) (d : Kd) (k : Int) (ng : Bool) (wd man x : Int) (more : Bool) (Ln : L8) (xx : Int) (L : Cac) (bb : Int) (ok : Bool) (e : Int) (L' : Cac) : Prop :=
 (i = 0 ∧ bb = spF d ng wd ∧ ok = true ∧ e = 0 ∧ L' = L) ∨
 (i = 1 ∧ ok = true ∧ e = 0 ∧ L' = L ∧ ∃ tt, fltT d (pv Ln) xx tt ∧ tt.2.2 = 0 ∧ bb = sgF d ng tt.1) ∨
 (i = 2 ∧ TabR k ng wd man x more bb ok e ∧ cacT k wd man x L L') ∨
 (i = 3 ∧ ok = true ∧ L' = L ∧ ∃ tt, fltT d (pv Ln) xx tt ∧ bb = (if tt.2.2 = 0 then sgF d ng tt.1 else 0) ∧ e = (if tt.2.2 = 0 then 0 else 90))
theorem Grow.trans0 {w w' : World} (h : Grow w w' []) (τ : List As) : Z1C w w' τ τ := fun w0 B M σ hs => h w0 B M (τ ++ σ) hs
theorem goesC (i : Nat) (hi : i < 4) (b : Nat) (L : Cac) (hL : L.length = 41) (A : Option Addr) (tc : Nat) (t : L8) (hLt : t.length ≤ 1099511627776) (k wd man x : Int) (ng more : Bool) (d : Kd) (hk : kd k = some d) (hman : 0 ≤ man ∧ man ≤ 18446744073709551615) (hxb : -110000 ≤ x ∧ x ≤ 110000) (Ln : L8) (q : Nat) (xx : Int)
  (hnum : ¬ wdP wd man → NumX t man x more Ln q xx) (hm : mayP i k wd man x more) (hpr : 1 ≤ i → ¬ wdP wd man) (w : World) (hS : Sep w.heap.size (fps (cacW b L)) w (cacW b L)) (hv : IB w (.slice A t.length tc) t) :
  VCall P (goesV i) [.agg #[.pointer (some ⟨b, 0, none⟩), .int .i64 k, .slice A t.length tc, .bool ng, .int .i64 wd, .int .u64 man, .int .i64 x, .bool more]] w fun r w' => ∃ bb ok e L', r = .tuple #[.int .u64 bb, .bool ok, .int .i64 e] ∧ GoP t i d k ng wd man x more Ln xx L bb ok e L' ∧ Z1C w w' (cacW b L) (cacW b L') := by
 rcases (show i = 0 ∨ i = 1 ∨ i = 2 ∨ i = 3 by omega) with rfl | rfl | rfl | rfl
 ·refine ⟨_, _, _, rfl, func196, rfl, rfl, (wordGoesP (some ⟨b, 0, none⟩) A t.length tc k wd man x ng more d hk w).mono fun r w' h => ?_⟩
  exact ⟨_, _, _, L, h.1, .inl ⟨rfl, rfl, rfl, rfl, rfl⟩, Grow.trans0 h.2 _⟩
 ·have hN := hnum (hpr ZO)
  have hsh := hm.2.1 rfl
  obtain ⟨mn, rfl⟩ := Int.eq_ofNat_of_zero_le hman.1
  have hm0 := hN.m0
  refine ⟨_, _, _, rfl, func197, rfl, rfl, (shortGoesP (some ⟨b, 0, none⟩) A t.length tc k wd x mn ng more d hk ZO hsh w).mono fun r w' h => ?_⟩
  obtain ⟨tt, hr, hf, h0, _, _, hG⟩ := h
  have hmo : more = false := hsh.1.1.1
  subst hmo
  exact ⟨_, _, _, L, hr, .inr (.inl ⟨rfl, rfl, rfl, rfl, tt, flt_short hN hf, h0, rfl⟩), Grow.trans0 hG _⟩
 ·refine ⟨_, _, _, rfl, func198, rfl, rfl, (roads1P b L hL A t.length tc k wd man x ng more hman ZO w hS).mono fun r w' h => ?_⟩
  obtain ⟨bb, ok, e, L', hr, hT, hC, hX⟩ := h
  exact ⟨bb, ok, e, L', hr, .inr (.inr (.inl ⟨rfl, hT, hC⟩)), hX⟩
 have hN := hnum (hpr ZO)
 refine ⟨_, _, _, rfl, func201, rfl, rfl, (roads3P (some ⟨b, 0, none⟩) wd man x A tc t hLt k ng d hk more Ln q xx hN w hv).mono fun r w' h => ?_⟩
 obtain ⟨tt, hf, hr, hG⟩ := h
 exact ⟨_, _, _, L, hr, .inr (.inr (.inr ⟨rfl, rfl, rfl, tt, hf, rfl, rfl⟩)), Grow.trans0 hG _⟩
inductive Z5H (t : L8) (k : Int) : Option Int → Prop
 | kind (h : kd k = none) : Z5H t k none
 | err {d : Kd} {ng more : Bool} {wd man x p e : Int} (h : kd k = some d) (hs : Z5o t ng wd man x more p e) (he : ¬ e = 0) : Z5H t k none
 | word {d : Kd} {ng more : Bool} {wd man x p : Int} (h : kd k = some d) (hs : Z5o t ng wd man x more p 0) (hw : wdP wd man) : Z5H t k none
 | short {d : Kd} {ng more : Bool} {wd man x p : Int} (h : kd k = some d) (hs : Z5o t ng wd man x more p 0) (hw : ¬ wdP wd man) (hh : shP k man x more) : Z5H t k none
 | far {d : Kd} {ng more : Bool} {wd man x p : Int} (h : kd k = some d) (hs : Z5o t ng wd man x more p 0) (hw : ¬ wdP wd man) (hh : ¬ shP k man x more) (hx : ¬ inQ x) : Z5H t k none
 | ask {d : Kd} {ng more : Bool} {wd man x p : Int} (h : kd k = some d) (hs : Z5o t ng wd man x more p 0) (hw : ¬ wdP wd man) (hh : ¬ shP k man x more) (hx : inQ x) : Z5H t k (some x)
def CaO (L : Cac) (o : Option Int) (L' : Cac) : Prop := match o with | none => L' = L | some q => CacQ L q L'
theorem roadS_2 {d : Kd} {k man x : Int} {more : Bool} (h : shP k man x more) : roadS d k man x more = 2 := if_pos h
theorem roadS_3 {d : Kd} {k man x : Int} {more : Bool} (h : ¬ shP k man x more) (hx : inQ x) (ha : agP d man x more) : roadS d k man x more = 3 := by unfold roadS; rw [if_neg h, if_pos ⟨hx, ha⟩]
theorem roadS_4 {d : Kd} {k man x : Int} {more : Bool} (h : ¬ shP k man x more) (hx : inQ x → ¬ agP d man x more) : roadS d k man x more = 4 := by unfold roadS; rw [if_neg h, if_neg (fun h => hx h.1 h.2)]
theorem tab_is {t : L8} {d : Kd} {k : Int} {ng more ok : Bool} {wd man x : Int} {bb e : Int} {Ln : L8} {q : Nat} {xx : Int} (hk : kd k = some d) (hw : ¬ wdP wd man) (hx : inQ x) (hN : NumX t man x more Ln q xx) (hT : TabR k ng wd man x more bb ok e) :
  (agP d man x more ∧ ∃ tt, fltT d (pv Ln) xx tt ∧ (ok = true ∨ ¬ e = 0) ∧ bb = (if tt.2.2 = 0 then sgF d ng tt.1 else 0) ∧ e = (if tt.2.2 = 0 then 0 else 90)) ∨ (¬ agP d man x more ∧ ok = false ∧ e = 0) := by
 cases hT with
 | kind h2 => rw [hk] at h2; cases h2
 | word _ H2 => exact absurd H2 hw
 | far _ _ hx2 => exact absurd hx hx2
 | @ends d' t1 t2 h2 _ _ k1 k2 =>
  rw [hk] at h2
  cases h2
  have hI := d.I_lt
  by_cases ha : t1.2.2 = t2.2.2 ∧ t1.1 = t2.1
  ·left
   have hag := (agP.iff k1 k2).2 ha
   refine ⟨hag, ?_⟩
   obtain ⟨tt, htt⟩ := RndR.exists (d := d) (N := pv Ln * 10 ^ xx.toNat * 2 ^ d.l) (D := 10 ^ (-xx).toNat) (Ma.pow_pos ZO _) (Int.mul_nonneg (Int.mul_nonneg (Int.le_of_lt hN.pos) (Int.le_of_lt (Ma.pow_pos ZO _))) (Int.le_of_lt (Ma.pow_pos ZO _)))
   have hb := tab_between hx (Int.le_of_lt hN.m0) hN.e (Int.le_of_lt hN.pos) hN.lo hN.hi k1 k2 htt ha
   refine ⟨tt, htt, ?_⟩
   have b1 := RndR.bits k1
   rcases b1 with ⟨h0, _⟩ | ⟨h0, h1⟩
   ·have e : tabF d ng t1 t2 = (sgF d ng t1.1, true, 0) := by
     unfold tabF
     rw [if_neg ZO, if_neg ZO]
     rfl
    have h2 : tt.2.2 = 0 := by omega
    rw [e, if_pos h2, if_pos h2, hb.1]
    exact ⟨.inl rfl, rfl, rfl⟩
   have e : tabF d ng t1 t2 = (0, false, 90) := by unfold tabF; rw [if_pos ZO]
   have h2 : ¬ tt.2.2 = 0 := by omega
   rw [e, if_neg h2, if_neg h2]
   exact ⟨.inr (by decide), rfl, rfl⟩
  right
  refine ⟨fun h => ha ((agP.iff k1 k2).1 h), ?_⟩
  have b1 := RndR.bits k1
  have b2 := RndR.bits k2
  unfold tabF
  rw [if_neg ZO, if_pos ZO]
  exact ⟨rfl, rfl⟩
def FlI (d : Kd) (k : Int) (L : Cac) (wd man x : Int) (more : Bool) (i : Nat) (L1 : Cac) : Prop :=
 i ≤ 3 ∧ (1 ≤ i → ¬ wdP wd man) ∧ (2 ≤ i → ¬ shP k man x more) ∧ L1.length = 41 ∧ (i ≤ 2 → L1 = L) ∧ (i = 3 → (inQ x → CacQ L x L1 ∧ ¬ agP d man x more) ∧ (¬ inQ x → L1 = L))
theorem FlI.skip {d : Kd} {k wd man x : Int} {L L1 : Cac} {more : Bool} {i : Nat} (h : FlI d k L wd man x more i L1) (hn : ¬ mayP i k wd man x more) : FlI d k L wd man x more (i + 1) L1 := by
 obtain ⟨h1, h2, h3, h4, h5, h6⟩ := h
 unfold mayP at hn
 rcases (show i = 0 ∨ i = 1 ∨ i = 2 ∨ i = 3 by omega) with rfl | rfl | rfl | rfl
 ·exact ⟨ZO, fun _ hw => hn ⟨fun _ => hw, by simp, by simp⟩, ZO, h4, fun _ => h5 ZO, ZO⟩
 ·exact ⟨ZO, fun _ => h2 ZO, fun _ hs => hn ⟨by simp, fun _ => hs, by simp⟩, h4, fun _ => h5 ZO, ZO⟩
 ·exact ⟨ZO, fun _ => h2 ZO, fun _ => h3 ZO, h4, ZO, fun _ => ⟨fun hx => absurd ⟨by simp, by simp, fun _ => hx⟩ hn, fun _ => h5 ZO⟩⟩
 exact absurd ⟨by simp, by simp, by simp⟩ hn
theorem FlI.go {t : L8} {d : Kd} {k wd man x xx bb e : Int} {L L1 L2 : Cac} {more ng ok : Bool} {i q : Nat} {Ln : L8} (hk : kd k = some d) (hN : ¬ wdP wd man → NumX t man x more Ln q xx) (h : FlI d k L wd man x more i L1) (hm : mayP i k wd man x more)
  (hg : GoP t i d k ng wd man x more Ln xx L1 bb ok e L2) (hno : ¬ (ok = true ∨ ¬ e = 0)) : FlI d k L wd man x more (i + 1) L2 := by
 obtain ⟨h1, h2, h3, h4, h5, h6⟩ := h
 rcases hg with ⟨rfl, _, h, _⟩ | ⟨rfl, h, _⟩ | ⟨rfl, hT, hC⟩ | ⟨rfl, h, _⟩
 ·exact absurd (.inl h) hno
 ·exact absurd (.inl h) hno
 ·have hw := h2 ZO
  have hx : inQ x := hm.2.2 rfl
  have hL := h5 ZO
  subst hL
  unfold cacT at hC
  rw [if_pos ⟨by rw [hk]; rfl, hw⟩] at hC
  refine ⟨ZO, fun _ => hw, fun _ => h3 ZO, by rw [hC.len]; exact h4, ZO, fun _ => ⟨fun _ => ⟨hC, ?_⟩, fun h => absurd hx h⟩⟩
  rcases tab_is hk hw hx (hN hw) hT with ⟨_, _, _, hyes, _⟩ | ⟨ha, _⟩
  ·exact absurd hyes hno
  exact ha
 exact absurd (.inl h) hno
theorem FlI.stop {t : L8} {d : Kd} {k wd man x xx bb e : Int} {L L1 L2 : Cac} {more ng ok : Bool} {i q : Nat} {Ln : L8} (hk : kd k = some d) (hs : Z5o t ng wd man x more 0 0) (hN : ¬ wdP wd man → NumX t man x more Ln q xx) (h : FlI d k L wd man x more i L1) (hm : mayP i k wd man x more)
  (hg : GoP t i d k ng wd man x more Ln xx L1 bb ok e L2) (hyes : ok = true ∨ ¬ e = 0) : FlR t k bb ((i : Int) + 1) 0 e ∧ ∃ o, Z5H t k o ∧ CaO L o L2 := by
 obtain ⟨h1, h2, h3, h4, h5, h6⟩ := h
 rcases hg with ⟨rfl, rfl, _, rfl, rfl⟩ | ⟨rfl, _, rfl, rfl, tt, hf, h0, rfl⟩ | ⟨rfl, hT, hC⟩ | ⟨rfl, _, rfl, tt, hf, rfl, rfl⟩
 ·have hw : wdP wd man := hm.1 rfl
  exact ⟨.word hk hs hw, none, .word hk hs hw, h5 ZO⟩
 ·have hw := h2 ZO
  have hh : shP k man x more := hm.2.1 rfl
  have hF := FlR.num hk hs hw (hN hw).ex hf
  rw [if_pos h0, if_pos h0, roadS_2 hh] at hF
  exact ⟨hF, none, .short hk hs hw hh, h5 ZO⟩
 ·have hw := h2 ZO
  have hh := h3 ZO
  have hx : inQ x := hm.2.2 rfl
  have hL := h5 ZO
  subst hL
  unfold cacT at hC
  rw [if_pos ⟨by rw [hk]; rfl, hw⟩] at hC
  refine ⟨?_, some x, .ask hk hs hw hh hx, hC⟩
  rcases tab_is hk hw hx (hN hw) hT with ⟨ha, tt, hf, _, rfl, rfl⟩ | ⟨_, ho, he⟩
  ·have hF := FlR.num hk hs hw (hN hw).ex hf
   rw [roadS_3 hh hx ha] at hF
   exact hF
  rw [ho, he] at hyes
  simp at hyes
 have hw := h2 ZO
 have hh := h3 ZO
 have hx := h6 rfl
 have hF := FlR.num hk hs hw (hN hw).ex hf
 rw [roadS_4 hh (fun h => (hx.1 h).2)] at hF
 refine ⟨hF, ?_⟩
 by_cases hq : inQ x
 ·exact ⟨some x, .ask hk hs hw hh hq, (hx.1 hq).1⟩
 exact ⟨none, .far hk hs hw hh hq, hx.2 hq⟩
theorem asksE (cp : Option Addr) (k : Int) (A : Option Addr) (tc : Nat) (t : L8) (hL : t.length ≤ 1099511627776) (w : World) (hv : IB w (.slice A t.length tc) t) : Z0f P 137 [.pointer cp, .int .i64 k, .slice A t.length tc] w fun r w' =>
  ∃ cp1 k1 A1 tl1 tc1 ng wd man x more p e, r = .tuple #[.agg #[.pointer cp1, .int .i64 k1, .slice A1 tl1 tc1, .bool ng, .int .i64 wd, .int .u64 man, .int .i64 x, .bool more], .int .i64 p, .int .i64 e] ∧
   ((kd k = none ∧ p = 0 ∧ e = 30) ∨ ∃ d, kd k = some d ∧ Z5o t ng wd man x more p e ∧ cp = cp1 ∧ k = k1 ∧ A = A1 ∧ t.length = tl1 ∧ tc = tc1) ∧ Grow w w' [] := by
 refine (asksP cp k A tc t hL w hv).mono ?_
 rintro r w' ⟨⟨h1, rfl⟩ | ⟨d, ng, wd, man, x, more, p, e, h1, h2, rfl⟩, hG⟩
 ·exact ⟨_, _, _, _, _, _, _, _, _, _, _, _, rfl, .inl ⟨h1, rfl, rfl⟩, hG⟩
 exact ⟨_, _, _, _, _, _, _, _, _, _, _, _, rfl, .inr ⟨d, h1, h2, rfl, rfl, rfl, rfl, rfl⟩, hG⟩
theorem num_any {t : L8} {ng more : Bool} {wd man x p : Int} (hs : Z5o t ng wd man x more p 0) : ∃ Ln q xx, ¬ wdP wd man → NumX t man x more Ln q xx := by
 by_cases h : wdP wd man
 ·exact ⟨[], 0, 0, fun h2 => absurd h h2⟩
 have h3 : wd = 0 ∧ man ≠ 0 := by unfold wdP at h; omega
 have hs2 := hs
 rw [h3.1] at hs2
 obtain ⟨_, L, q, xx, hN⟩ := num_ex hs2 h3.2
 exact ⟨L, q, xx, fun _ => hN⟩
theorem FloatP (b : Nat) (L : Cac) (hL : L.length = 41) (k : Int) (A : Option Addr) (tc : Nat) (t : L8) (hLt : t.length ≤ 1099511627776) (w : World) (hS : Sep w.heap.size (fps (cacW b L)) w (cacW b L)) (hv : ∀ w1 : World, (∀ k, k < w.heap.size → ¬ fps (cacW b L) k → w1.heap[k]? = w.heap[k]?) → IB w1 (.slice A t.length tc) t) :
  Z0f P 76 [.pointer (some ⟨b, 0, none⟩), .int .i64 k, .slice A t.length tc] w fun r w' => ∃ bb road place e L' o, r = .tuple #[.int .u64 bb, .int .i64 road, .int .i64 place, .int .i64 e] ∧ FlR t k bb road place e ∧ Z5H t k o ∧ CaO L o L' ∧ L'.length = 41 ∧ Z1C w w' (cacW b L) (cacW b L') := by
 refine Z0o func76 rfl ntmps76 rfl ?_
 have H0 : St w w.heap.size (fps (cacW b L)) (cacW b L) w := St.startS hS
 refine Z03 (Z00 (Zg ?_))
 refine Zg ?_
 refine Zg ?_
 refine Zg (Z01 (Z02 ?_))
 refine Zk [0, 1, 2] ?_
 refine Z03 (Z00 (Zm ?_))
 refine Zm ?_
 refine Zm ?_
 refine Zc func137 (asksE (some ⟨b, 0, none⟩) k A tc t hLt w (H0.ikM hv)) ?_
 rintro _ w1 ⟨cp1, k1, A1, tl1, tc1, ng, wd, man, x, more, p, e, rfl, hAsk, hG⟩
 have H1 := hG _ _ _ _ H0
 simp only [Zca, Zna] at H1
 refine Zm ?_
 refine Zx (Zx (Zx ?_))
 refine Z0X H1 ta199 rfl rfl (fun b1_8 w2 H2 => ?_)
 refine Z0m H2 .head (.zero (.zero (.zero (.zero (.zero (.zero (.zero (.zero .nil)))))))) rfl Z6p rfl rfl ZC (fun w3 H3 => ?_)
 refine Zg ?_
 refine Zg (Z01 (Z02 ?_))
 refine Zk [8, 9, 10] ?_
 refine Z03 (Z03 (Z00 (Zm ?_)))
 refine Zo ?_
 refine Z01 (Z02 ?_)
 refine Zk [8, 9, 10, 25] ?_
 (first | refine Z0c rfl ?_ ?_ | refine Z08 rfl ?_ ?_) <;> intro hc0
 ·refine Z03 (Z00 (Zm ?_))
  refine Zm ?_
  refine Zg ?_
  refine Zg ?_
  refine Zg ?_
  refine Zg (Z01 (Z02 ?_))
  refine Zk [6, 7, 8, 9] ?_
  refine Z0i ?_
  refine Z07 ?_
  refine Z12 results76 (.tmp rfl (.tmp rfl (.tmp rfl (.tmp rfl .nil)))) rfl ?_
  refine ⟨_, rfl, ?_⟩
  have H6 := St.del (.tail (.tail .head)) (St.front2 (St.front2 H3))
  rcases hAsk with ⟨hno, rfl, rfl⟩ | ⟨d, hk, hsc, rfl, rfl, rfl, rfl, rfl⟩
  ·exact ⟨0, 0, 0, 30, L, none, rfl, .kind hno, .kind hno, rfl, hL, H6.transS⟩
  exact ⟨0, 0, p, e, L, none, rfl, .err hk hsc hc0, .err hk hsc hc0, rfl, hL, H6.transS⟩
 have he0 : e = 0 := by omega
 subst he0
 rcases hAsk with ⟨_, _, h30⟩ | ⟨d, hk, hsc, rfl, rfl, rfl, rfl, rfl⟩
 ·exact absurd h30 ZO
 have hbd := hsc.bds
 have hp0 := hsc.pos0
 subst hp0
 obtain ⟨Ln, q, xx, hnum⟩ := num_any hsc
 refine Z0a (Z02 ?_)
 refine Zk [10] ?_
 refine Z03 (Z03 (Z00 ?_))
 refine Zc func150 (roadsP w3) ?_
 rintro _ w7 ⟨rb, rfl, hG⟩
 have H7 := hG _ _ _ _ H3
 simp only [Zca, Zna] at H7
 have hik0 : IK w7 3 (.slice (some ⟨rb, 0, none⟩) 4 4) rdL := ⟨rdL_rows, _, _, rfl, by decide, Z1M (H7.ok mem0)⟩
 have H8 := St.frontL (l := [_, _, _]) H7
 simp only [Zca, Zna] at H8
 have H9 := St.frontL (l := [_, _, _]) H8
 simp only [Zca, Zna] at H9
 have H10 := St.frontL (l := [_, _, _]) H9
 simp only [Zca, Zna] at H10
 have H11 := St.frontL (l := [_, _, _]) H10
 simp only [Zca, Zna] at H11
 refine Z1B rfl rfl underlying217 rfl (by first | exact H11.ibl mem0 | exact H11.ibl mem1 | exact H11.ibl mem2 | exact H11.ikM hv | assumption) ?_
 refine Z0j (s := 29) (v' := .int .i64 4) rfl rfl ?_
 refine Zm (Z01 (Z02 (Z0d ?_)))
 refine Z0z (ι := Nat × Cac) (fun (z0 : Nat × Cac) => match z0 with | ⟨i, L1⟩ => 4 - i) (fun (z0 : Nat × Cac) (w' : World) => match z0 with | ⟨i, L1⟩ => St w w.heap.size (fps (cacW b L)) ([As.blk rb 221 [.int .i64 1, .func (.func 138) #[] #[], .func (.func 196) #[] #[], .int .i64 2, .func (.func 139) #[] #[], .func (.func 197) #[] #[], .int .i64 3, .func (.func 140) #[] #[], .func (.func 198) #[] #[], .int .i64 4, .func (.func 200) #[] #[], .func (.func 201) #[] #[]], As.blk b1_8 199 [.pointer (some ⟨b, 0, none⟩), .int .i64 k, .slice A t.length tc, .bool ng, .int .i64 wd, .int .u64 man, .int .i64 x, .bool more], As.blk b 107 (cacC L1), As.many (inR L1)]) w' ∧ FlI d k L wd man x more i L1) (fun (z0 : Nat × Cac) => match z0 with | ⟨i, L1⟩ => [(30, .int .i64 (i : Int))]) [10, 28, 29] (0, L) ?_ (.cons rfl (.cons rfl (.cons rfl .nil))) ?_ ?_
 ·exact ⟨H11, ZO, ZO, ZO, hL, fun _ => rfl, ZO⟩
 ·exact (.cons rfl ZN .nil)
 rintro ⟨i, L1⟩ w12 ⟨H12, hFl⟩
 show RunC P _ _ _ (_ :: _) _
 have hi4 := hFl.1
 refine Z03 (Z00 ?_)
 refine Zl ?_
 refine Z0j (s := 31) (v' := .bool true) rfl (by simp; omega) ?_
 refine Z01 (Z02 (Z03 ?_))
 refine c_cond_t rfl rfl ?_
 refine Z0a (Z02 ?_)
 refine Zk [10, 28, 29, 30] ?_
 refine Z1q (ι := Cac) (fun (L2 : Cac) (w' : World) => St w w.heap.size (fps (cacW b L)) ([As.blk rb 221 [.int .i64 1, .func (.func 138) #[] #[], .func (.func 196) #[] #[], .int .i64 2, .func (.func 139) #[] #[], .func (.func 197) #[] #[], .int .i64 3, .func (.func 140) #[] #[], .func (.func 198) #[] #[], .int .i64 4, .func (.func 200) #[] #[], .func (.func 201) #[] #[]], As.blk b1_8 199 [.pointer (some ⟨b, 0, none⟩), .int .i64 k, .slice A t.length tc, .bool ng, .int .i64 wd, .int .u64 man, .int .i64 x, .bool more], As.blk b 107 (cacC L2), As.many (inR L2)]) w' ∧ FlI d k L wd man x more (i + 1) L2) (fun (L2 : Cac) => []) [10, 28, 29, 30] (.cons rfl (.cons rfl (.cons rfl (.cons rfl .nil)))) ?_ ?_
 ·refine Z0d (Z03 (Z00 ?_))
  have hi3 : i < 4 := by omega
  have hrl : rdL.length = 4 := rfl
  have hik : IK w12 3 (.slice (some ⟨rb, 0, none⟩) 4 4) rdL := ⟨rdL_rows, _, _, rfl, by decide, Z1M (H12.ok mem0)⟩
  have hmo1 := mayV_one i
  have hgo1 := goesV_one i
  refine Z3J (j := i) rfl rfl underlying217 tz221 (by decide) rfl rfl (by first | exact H12.ibl mem0 | exact H12.ibl mem1 | exact H12.ibl mem2 | exact H12.ikM hv | assumption) ZP ZI (fun ad6_0 ac6_0 hA6_0 => ?_)
  refine Z2w (j := i) rfl rfl underlying221 rfl tz221 rfl hA6_0 (by first | exact H12.ibl mem0 | exact H12.ibl mem1 | exact H12.ibl mem2 | exact H12.ikM hv | assumption) (rdL_at hi3) ?_
  refine Z0X H12 ta221 rfl rfl (fun b6_2 w13 H13 => ?_)
  refine Z0m H13 .head (.zero (.zero (.zero .nil))) rfl tz221 rfl rfl ZC (fun w14 H14 => ?_)
  refine Z01 (Z02 ?_)
  refine Zk [10, 12, 28, 29, 30] ?_
  refine Z03 (Z03 (Z00 (Z09 fo221_1 rfl rfl rfl ?_)))
  refine Z05 H14 mem0 rfl rfl underlying202 rfl rfl rfl ?_
  refine Z1b H14 mem2 rfl rfl underlying199 rfl Z6p rfl (.take (.take (.take (.take (.take (.take (.take (.take .nil)))))))) ?_
  refine l_callx rfl rfl rfl (.cons rfl .nil) (mayC i hi3 (some ⟨b, 0, none⟩) A t.length tc k wd man x ng more w14) ?_
  rintro _ w15 ⟨rfl, hG⟩
  have H15 := hG _ _ _ _ H14
  simp only [Zca, Zna] at H15
  first | refine Z38 rfl rfl rfl ?_ | refine Z3v rfl rfl rfl ?_
  refine Z01 (Z02 ?_)
  refine Zk [10, 12, 28, 29, 30, 38] ?_
  (first | refine Z0c rfl ?_ ?_ | refine Z08 rfl ?_ ?_) <;> intro hc2
  ·refine Z0H ?_
   refine Z06 ?_
   refine Z0h ?_
   have H16 := St.frontL (l := [_, _, _, _]) H15
   simp only [Zca, Zna] at H16
   have H17 := St.frontL (l := [_, _, _, _]) H16
   simp only [Zca, Zna] at H17
   have H18 := St.frontL (l := [_, _, _, _]) H17
   simp only [Zca, Zna] at H18
   have H19 := St.frontL (l := [_, _, _, _]) H18
   simp only [Zca, Zna] at H19
   have H20 := St.del (.tail (.tail (.tail (.tail .head)))) H19
   refine Z0w (L1) ?_ (.cons rfl (.cons rfl (.cons rfl (.cons rfl .nil)))) ?_
   ·exact ⟨H20, hFl.skip ZA⟩
   exact .nil
  have hm : mayP i k wd man x more := Classical.not_not.1 hc2
  refine Z0a (Z02 ?_)
  refine Zk [10, 12, 28, 29, 30] ?_
  refine Z03 (Z00 (Z09 fo221_2 rfl rfl rfl ?_))
  refine Z05 H15 mem0 rfl rfl underlying219 rfl rfl rfl ?_
  refine Z1b H15 mem2 rfl rfl underlying199 rfl Z6p rfl (.take (.take (.take (.take (.take (.take (.take (.take .nil)))))))) ?_
  have H21 := St.frontL (l := [_, _, _, _]) H15
  simp only [Zca, Zna] at H21
  have H22 := St.frontL (l := [_, _, _, _]) H21
  simp only [Zca, Zna] at H22
  refine l_callx rfl rfl rfl (.cons rfl .nil) (goesC i hi3 b L1 hFl.2.2.2.1 A tc t hLt k wd man x ng more d hk ⟨hbd.1, hbd.2.1⟩ hbd.2.2 Ln q xx hnum hm hFl.2.1 w15 (St.rows (τ := cacW b L1) H22) (H22.ikM hv)) ?_
  rintro _ w23 ⟨bb, ok, e2, L2, rfl, hGo, hX⟩
  have H23 := hX _ _ _ _ H22
  simp only [cacW, List.cons_append, List.nil_append] at H23
  have hL2' : L2.length = 41 := by
   rcases hGo with ⟨_, _, _, _, rfl⟩ | ⟨_, _, _, rfl, _⟩ | ⟨_, _, h⟩ | ⟨_, _, rfl, _⟩
   ·exact hFl.2.2.2.1
   ·exact hFl.2.2.2.1
   ·unfold cacT at h
    split at h
    ·rw [h.len]; exact hFl.2.2.2.1
    rw [h]; exact hFl.2.2.2.1
   exact hFl.2.2.2.1
  refine Zm ?_
  refine Zx (Zx (Zx (Zg ?_)))
  refine Zg ?_
  refine Zg (Z01 (Z02 ?_))
  refine Zk [10, 12, 13, 14, 15, 28, 29, 30] ?_
  refine Z03 (Z00 (Zm ?_))
  refine Zm ?_
  refine Z0j (s := 48) (v' := .bool (decide (ok = true))) rfl (by cases ok <;> rfl) ?_
  apply l_or 2 [10, 12, 13, 15, 28, 29, 30] rfl rfl (.cons rfl (.cons rfl (.cons rfl (.cons rfl (.cons rfl (.cons rfl (.cons rfl (.cons rfl .nil)))))))) rfl rfl (fun _ => rfl) rfl rfl rfl
  ·intro hg9_2
   refine Zm ?_
   refine Zo ?_
   refine Z01 ?_
   exact Z0O rfl (.cons rfl (ZF hg9_2) (.cons rfl rfl (.cons rfl rfl (.cons rfl rfl (.cons rfl rfl (.cons rfl rfl (.cons rfl rfl (.cons rfl rfl .nil))))))))
  refine Z01 (Z02 ?_)
  refine Zk [10, 12, 13, 15, 28, 29, 30, 51] ?_
  (first | refine Z0c rfl ?_ ?_ | refine Z08 rfl ?_ ?_) <;> intro hc3
  ·refine Z03 ?_
   refine Z2F ZK ZK ?_
   have H24 := H23.drewn
   refine Zm (Z09 fo221_0 rfl rfl rfl ?_)
   refine Z05 H24 mem2 rfl rfl underlying3 rfl rfl rfl ?_
   refine Zm ?_
   refine Zg ?_
   refine Zg ?_
   refine Zg ?_
   refine Zg (Z01 (Z02 ?_))
   refine Zk [6, 7, 8, 9] ?_
   refine Z0i ?_
   refine Z0k ?_
   refine Z07 ?_
   refine Z07 ?_
   refine Z0k ?_
   refine Z07 ?_
   refine Z12 results76 (.tmp rfl (.tmp rfl (.tmp rfl (.tmp rfl .nil)))) rfl ?_
   refine ⟨_, rfl, ?_⟩
   have H29 := St.del (.tail (.tail .head)) (St.del (.tail (.tail (.tail .head))) (St.del (.tail (.tail (.tail (.tail .head)))) (St.front1 (St.front1 H24))))
   obtain ⟨hF, o, hNe, hCa⟩ := hFl.stop hk hsc hnum hm hGo ZA
   exact ⟨bb, _, 0, e2, L2, o, rfl, hF, hNe, hCa, hL2', H29.transS⟩
  refine Z0a ?_
  refine Z0F ?_
  have H30 := St.frontL (l := [_]) H23
  simp only [Zca, Zna] at H30
  have H31 := St.frontL (l := [_]) H30
  simp only [Zca, Zna] at H31
  have H32 := St.frontL (l := [_, _, _, _]) H31
  simp only [Zca, Zna] at H32
  have H33 := St.frontL (l := [_, _, _, _]) H32
  simp only [Zca, Zna] at H33
  have H34 := St.del (.tail (.tail (.tail (.tail .head)))) H33
  refine Z0w (L2) ?_ (.cons rfl (.cons rfl (.cons rfl (.cons rfl .nil)))) ?_
  ·exact ⟨H34, hFl.go hk hnum hm hGo ZA⟩
  exact .nil
 rintro L2 w35 ⟨H35, hFl2⟩
 refine Z00 ?_
 refine Z0y rfl rfl rfl rfl (Z0l ZO) ?_
 refine Zm (Z01 ?_)
 refine Z0p (i := (i, L1)) (i + 1, L2) ?_ ?_ (.cons rfl (.cons rfl (.cons rfl .nil))) ?_
 ·first | omega | (simp; omega)
 ·exact ⟨H35, hFl2⟩
 exact (.cons rfl ZN .nil)
end Go.Proofs.YtgjgahmhoflgcaaGreatDoor.W
