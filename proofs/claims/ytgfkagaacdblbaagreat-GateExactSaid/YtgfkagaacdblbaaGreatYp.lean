/- walks of the driver's Play, of the gate's methods -/
import Derived.Laws.Cover3
import Derived.Test.YtgfkagaacdblbaaGreatYk
set_option linter.unusedVariables false
set_option linter.unusedSimpArgs false
set_option maxRecDepth 10000
namespace Go.Proofs.YtgfkagaacdblbaaGreat.W
open Go.Vc Go.RowKit Tryz
def Z1Q (p n : Int) : Int := if p.tmod n < 0 then p.tmod n + n else p.tmod n
theorem tmod_gt {p n : Int} (hn : 0 < n) : -n < p.tmod n := by
 have := Int.tmod_lt_of_pos (-p) hn
 rw [Int.neg_tmod] at this
 omega
theorem Z3m {p n : Int} (hn : 0 < n) : 0 ≤ Z1Q p n ∧ Z1Q p n < n := by
 have h1 := Int.tmod_lt_of_pos p hn
 have h2 : -n < p.tmod n := by
  have := Int.tmod_lt_of_pos (-p) hn
  rw [Int.neg_tmod] at this
  omega
 unfold Z1Q
 split <;> omega
def Z3n (G : GW) (p : Int) : GW := Z1E G (Z1Q p (Z0A G).length).toNat
inductive Z2r (G0 : GW) (l : List Int) : Nat → GW → Prop
 | zero : Z2r G0 l 0 G0
 | succ {k : Nat} {p : Int} {G : GW} (h : Z2r G0 l k G) (hm : Z0A G ≠ []) (hp : l[k]? = some p) : Z2r G0 l (k + 1) (Z3n G p)
theorem Z3a {G : GW} {p : Int} (hm : Z0A G ≠ []) : ∃ i, (Z0A G)[(Z1Q p (Z0A G).length).toNat]? = some i ∧ Z3n G p = Z1S G i ∧ i < G.hs.length ∧ mayG G i = true := by
 have hpos : 0 < (Z0A G).length := List.length_pos_iff.2 hm
 have hb := Z3m (p := p) (show (0 : Int) < ((Z0A G).length : Int) by omega)
 obtain ⟨i, hi⟩ : ∃ i, (Z0A G)[(Z1Q p (Z0A G).length).toNat]? = some i := ⟨_, List.getElem?_eq_getElem ZO⟩
 obtain ⟨h1, h2⟩ := Z2O (List.mem_of_getElem? hi)
 exact ⟨i, hi, by unfold Z3n Z1E; rw [hi], h1, h2⟩
theorem Z2r.wf {G0 G : GW} {l : List Int} {k : Nat} (hw : Wf G0) (h : Z2r G0 l k G) : Wf G := by
 induction h with
 | zero => exact hw
 | succ h hm hp ih =>
  obtain ⟨i, _, e, _, h2⟩ := Z3a hm
  rw [e]
  exact ih.step h2
theorem Z1m (l : List Nat) : (Z18 l).length = l.length := by simp [Z18]
theorem moves1 {b : Nat} {X : Gm} (hwf : Wf X.abs) (w : World) (hS : Sep w.heap.size (fps (gW b X)) w (gW b X)) : Z0f P 43 [ptr b] w fun r w' => ∃ v, r = v ∧ Z1C w w' (gW b X) (gW b X ++ [As.rk 87 2 v (Z18 (Z0A X.abs))]) :=
 Calls.mono (movesD b X hwf w hS) fun e w' ⟨v, e1, h⟩ => ⟨v, e1, v, rfl, h⟩
theorem PlayD (b : Nat) (X : Gm) (hwf : Wf X.abs) (v : Value) (l : List Int) (hl : Rg (-9223372036854775808) 9223372036854775807 l) (hll : l.length ≤ 1099511627776) (w : World) (hS : Sep w.heap.size (fps (gW b X)) w (gW b X)) (hv : ∀ w1 : World, (∀ k, k < w.heap.size → ¬ fps (gW b X) k → w1.heap[k]? = w.heap[k]?) → IV w1 v (ints .i64 l)) :
  Z0f P 34 [ptr b, v] w fun r w' => ∃ (k : Nat) (Y : Gm), r = .int .i64 (k : Int) ∧ Z2r X.abs l k Y.abs ∧ (k = l.length ∨ (k < l.length ∧ Z0A Y.abs = [])) ∧ Z1C w w' (gW b X) (gW b Y) := by
 refine Z0o func34 rfl ntmps34 rfl ?_
 have H0 : St w w.heap.size (fps (gW b X)) (gW b X) w := St.startS hS
 refine Z03 (Z00 (Zg (Z01 (Z02 ?_))))
 refine Zk [0, 1] ?_
 refine Z03 (Z03 (Z00 (Zm ?_)))
 refine Z0u rfl rfl underlying34 rfl (by first | exact H0.ibl mem0 | exact H0.ik ZA mem1 | exact H0.io mem2 | exact H0.ikM hv | assumption) ?_
 refine Zm (Z01 (Z02 (Z0d ?_)))
 refine Z0z (ι := Nat × Gm) (fun (z0 : Nat × Gm) => match z0 with | ⟨i, Y⟩ => l.length - i) (fun (z0 : Nat × Gm) (w' : World) => match z0 with | ⟨i, Y⟩ => St w w.heap.size (fps (gW b X)) (gW b Y) w' ∧ i ≤ l.length ∧ Z2r X.abs l i Y.abs) (fun (z0 : Nat × Gm) => match z0 with | ⟨i, Y⟩ => [(11, .int .i64 (i : Int))]) [0, 1, 9, 10] (0, X) ?_ (.cons rfl (.cons rfl (.cons rfl (.cons rfl .nil)))) ?_ ?_
 ·exact ⟨H0, ZO, .zero⟩
 ·exact (.cons rfl ZN .nil)
 rintro ⟨i, Y⟩ w1 ⟨H1, hi, hN⟩
 show RunC P _ _ _ (_ :: _) _
 refine Z03 (Z00 ?_)
 refine Zl ?_
 refine Z01 (Z02 (Z03 ?_))
 (first | refine Z0c rfl ?_ ?_ | refine Z08 rfl ?_ ?_) <;> intro hc0
 ·refine Z0a (Z02 ?_)
  refine Zk [0, 1, 9, 10, 11] ?_
  refine Z03 (Z0d (Z03 (Z00 ?_)))
  have hi1 : i < l.length := by omega
  have hwfY := hN.wf hwf
  have hml := Z3C Y.abs
  have hn16 : Y.abs.hs.length ≤ 16 := hwfY.n16
  refine Zm ?_
  refine Z0T (j := i) rfl rfl rfl rfl underlying34 tz3 underlying3 rfl rfl (by first | exact H1.ibl mem0 | exact H1.ik ZA mem1 | exact H1.io mem2 | exact H1.ikM hv | assumption) ZA rfl ZO ZI (fun hb3_1 => ?_)
  refine Zg (Zg (Z01 (Z02 ?_)))
  refine Zk [0, 1, 5, 6, 9, 10, 11] ?_
  refine Z03 (Z00 (Zm ?_))
  refine Zc func43 (moves1 (b := b) (X := Y) hwfY w1 (St.rows (τ := gW b Y) H1)) ?_
  rintro mv w2 ⟨_, rfl, hX2⟩
  have H2 := hX2 _ _ _ _ H1
  simp only [gW, List.cons_append, List.nil_append] at H2
  refine Zg (Z01 (Z02 ?_))
  refine Zk [0, 1, 5, 6, 7, 9, 10, 11] ?_
  refine Z03 (Z03 (Z00 (Zm ?_)))
  refine Z1B rfl rfl underlying50 rfl (Own.ik (Z0U _) (H2.ok mem4)) ?_
  refine Z0j (s := 19) (v' := .int .i64 ((Z0A Y.abs).length : Int)) rfl (by rw [Z1m]) ?_
  refine Ze ?_
  refine Z01 (Z02 ?_)
  refine Zk [0, 1, 5, 6, 7, 9, 10, 11, 20] ?_
  (first | refine Z0c rfl ?_ ?_ | refine Z08 rfl ?_ ?_) <;> intro hc1
  ·refine Z03 (Z00 (Zm (Zg (Z01 (Z02 ?_)))))
   refine Zk [4] ?_
   refine Z0i ?_
   refine Z07 ?_
   refine Z0k ?_
   refine Z07 ?_
   refine Z07 ?_
   refine Z0k ?_
   refine Z07 ?_
   refine Z0e results34 rfl ?_
   refine ⟨_, rfl, ?_⟩
   have H3 := St.del (.tail (.tail (.tail (.tail .head)))) H2
   refine ⟨i, Y, rfl, hN, .inr ⟨hi1, ?_⟩, H3.transS⟩
   exact List.eq_nil_of_length_eq_zero ZO
  refine Z0a (Z02 ?_)
  refine Zk [0, 1, 6, 7, 9, 10, 11] ?_
  refine Z03 (Z00 ?_)
  have hne : Z0A Y.abs ≠ [] := fun h => hc1 (by rw [h]; rfl)
  have hpos : 0 < (Z0A Y.abs).length := List.length_pos_iff.2 hne
  have hwb := Z3m (p := l.getD i 0) (show (0 : Int) < ((Z0A Y.abs).length : Int) by omega)
  have htg := tmod_gt (p := l.getD i 0) (show (0 : Int) < ((Z0A Y.abs).length : Int) by omega)
  obtain ⟨i0, hi0, hps, hi2, hmay2⟩ := Z3a (p := l.getD i 0) hne
  have hi2 : i0 < Y.hs.length := by simpa [Gm.abs] using hi2
  refine Zm (Zm ?_)
  refine Z1B rfl rfl underlying50 rfl (Own.ik (Z0U _) (H2.ok mem4)) ?_
  refine Z0j (s := 24) (v' := .int .i64 ((Z0A Y.abs).length : Int)) rfl (by rw [Z1m]) ?_
  refine Z2e rfl rfl rfl rfl ZO rfl ?_
  refine Zg (Z01 (Z02 ?_))
  refine Zk [0, 1, 7, 8, 9, 10, 11] ?_
  refine Z1q (ι := Nat) (fun (kk : Nat) (w' : World) => St w w.heap.size (fps (gW b X)) (gW b Y ++ [As.rk 87 2 mv (Z18 (Z0A Y.abs))]) w' ∧ kk = (Z1Q (l.getD i 0) (Z0A Y.abs).length).toNat) (fun (kk : Nat) => [(8, .int .i64 (kk : Int))]) [0, 1, 7, 9, 10, 11] (.cons rfl (.cons rfl (.cons rfl (.cons rfl (.cons rfl (.cons rfl .nil)))))) ?_ ?_
  ·refine Z03 (Z00 (Zm ?_))
   refine Zl ?_
   refine Z01 (Z02 ?_)
   refine Zk [0, 1, 7, 8, 9, 10, 11, 27] ?_
   (first | refine Z0c rfl ?_ ?_ | refine Z08 rfl ?_ ?_) <;> intro hc2
   ·refine Z00 (Zm (Zm ?_))
    refine Z1B rfl rfl underlying50 rfl (Own.ik (Z0U _) (H2.ok mem4)) ?_
    refine Z0j (s := 30) (v' := .int .i64 ((Z0A Y.abs).length : Int)) rfl (by rw [Z1m]) ?_
    refine Z0y rfl rfl rfl rfl (Z0l ZO) ?_
    refine Zg (Z01 ?_)
    refine Z0w ((Z1Q (l.getD i 0) (Z0A Y.abs).length).toNat) ?_ (.cons rfl (.cons rfl (.cons rfl (.cons rfl (.cons rfl (.cons rfl .nil)))))) ?_
    ·exact ⟨H2, rfl⟩
    exact (.cons rfl (by (refine congrArg (Value.int .i64) ?_; rw [Int.toNat_of_nonneg hwb.1]; unfold Z1Q; split <;> first | rfl | omega)) .nil)
   refine Z0a ?_
   refine Z0w ((Z1Q (l.getD i 0) (Z0A Y.abs).length).toNat) ?_ (.cons rfl (.cons rfl (.cons rfl (.cons rfl (.cons rfl (.cons rfl .nil)))))) ?_
   ·exact ⟨H2, rfl⟩
   exact (.cons rfl (by (refine congrArg (Value.int .i64) ?_; rw [Int.toNat_of_nonneg hwb.1]; unfold Z1Q; split <;> first | rfl | omega)) .nil)
  rintro kk w4 ⟨H4, hkk⟩
  show RunC P _ _ _ (_ :: _) _
  refine Z00 ?_
  have hmr : (Z18 (Z0A Y.abs))[kk]? = some [.int .i64 (i0 : Int), .int .i64 0] := by rw [hkk]; unfold Z18; rw [List.getElem?_map, hi0]; rfl
  refine Zm (Zm (Zm ?_))
  refine Z3J (j := kk) rfl rfl underlying50 tz87 (by decide) rfl rfl (Own.ik (Z0U _) (H4.ok mem4)) rfl (by rw [Z1m]; omega) (fun A10 c10 hA10 => ?_)
  refine Z2w (j := kk) rfl rfl underlying87 rfl tz87 rfl hA10 (Own.ik (Z0U _) (H4.ok mem4)) hmr ?_
  refine Zc func58 (moveD b Y hwfY i0 hi2 hmay2 0 w4 (St.rows (τ := gW b Y) H4)) ?_
  rintro _ w5 ⟨Y2, rfl, hY2, hX2⟩
  have H5 := hX2 _ _ _ _ H4
  simp only [gW, List.cons_append, List.nil_append] at H5
  refine Z01 ?_
  refine Z0F ?_
  refine Z02 ?_
  refine Zk [0, 1, 9, 10, 11] ?_
  refine Z00 ?_
  refine Z0y rfl rfl rfl rfl (Z0l ZO) ?_
  refine Zm (Z01 ?_)
  rw [← hps] at hY2
  have H6 := St.del (.tail (.tail (.tail (.tail .head)))) H5
  refine Z0p (i := (i, Y)) (i + 1, Y2) ?_ ?_ (.cons rfl (.cons rfl (.cons rfl (.cons rfl .nil)))) ?_
  ·first | omega | (simp; omega)
  ·exact ⟨H6, ZO, by rw [hY2]; exact .succ hN hne (by simp [List.getD, hi1])⟩
  exact (.cons rfl ZN .nil)
 refine Z0H ?_
 refine Z06 ?_
 refine Z06 ?_
 refine Z0h ?_
 refine Z02 ?_
 refine Zk [1] ?_
 refine Z03 (Z00 (Zm ?_))
 refine Z0u rfl rfl underlying34 rfl (by first | exact H1.ibl mem0 | exact H1.ik ZA mem1 | exact H1.io mem2 | exact H1.ikM hv | assumption) ?_
 refine Zg (Z01 (Z02 ?_))
 refine Zk [4] ?_
 refine Z0i ?_
 refine Z0e results34 rfl ?_
 refine ⟨_, rfl, ?_⟩
 obtain rfl : i = l.length := by omega
 exact ⟨_, Y, rfl, hN, .inl rfl, H1.transS⟩
theorem MovesG (b : Nat) (X : Gm) (hwf : Wf X.abs) (w : World) (hS : Sep w.heap.size (fps (gW b X)) w (gW b X)) :
  Z0f P 23 [ptr b] w fun r w' => ∃ v, r = v ∧ Z1C w w' (gW b X) (gW b X ++ [As.rk 87 2 v (Z18 (Z0A X.abs))]) := by
 refine Z0o func23 rfl ntmps23 rfl ?_
 have H0 : St w w.heap.size (fps (gW b X)) (gW b X) w := St.startS hS
 refine Z03 (Z00 (Zg (Z01 (Z02 ?_))))
 refine Zk [0] ?_
 refine Z03 (Z00 (Zm (Z0b rfl rfl rfl (Z09 Z3K rfl rfl rfl ?_))))
 refine Zc func43 (moves1 (b := b) (X := X) hwf w (St.rows (τ := gW b X) H0)) ?_
 rintro mv w1 ⟨_, rfl, hX2⟩
 have H1 := hX2 _ _ _ _ H0
 simp only [gW, List.cons_append, List.nil_append] at H1
 refine Zg (Z01 (Z02 ?_))
 refine Zk [2] ?_
 refine Z0i ?_
 refine Z0e results23 rfl ?_
 refine ⟨_, rfl, ?_⟩
 exact ⟨mv, rfl, H1.transS⟩
theorem PlayG (b : Nat) (X : Gm) (hwf : Wf X.abs) (v : Value) (l : List Int) (hl : Rg (-9223372036854775808) 9223372036854775807 l) (hll : l.length ≤ 1099511627776) (w : World) (hS : Sep w.heap.size (fps (gW b X)) w (gW b X)) (hv : ∀ w1 : World, (∀ k, k < w.heap.size → ¬ fps (gW b X) k → w1.heap[k]? = w.heap[k]?) → IV w1 v (ints .i64 l)) :
  Z0f P 12 [ptr b, v] w fun r w' => ∃ (k : Nat) (Y : Gm), r = .int .i64 (k : Int) ∧ Z2r X.abs l k Y.abs ∧ (k = l.length ∨ (k < l.length ∧ Z0A Y.abs = [])) ∧ Z1C w w' (gW b X) (gW b Y) := by
 refine Z0o func12 rfl ntmps12 rfl ?_
 have H0 : St w w.heap.size (fps (gW b X)) (gW b X) w := St.startS hS
 refine Z03 (Z00 (Zg (Z01 (Z02 ?_))))
 refine Zk [0, 1] ?_
 refine Z03 (Z00 (Zm (Z0b rfl rfl rfl (Z09 Z3K rfl rfl rfl (Zm ?_)))))
 refine Zc func34 (PlayD b X hwf v l hl hll w (St.rows (τ := gW b X) H0) hv) ?_
 rintro _ w1 ⟨k, Y, rfl, hN, hE, hX2⟩
 have H1 := hX2 _ _ _ [] H0
 simp only [gW, List.cons_append, List.nil_append] at H1
 refine Zg (Z01 (Z02 ?_))
 refine Zk [4] ?_
 refine Z0i ?_
 refine Z0e results12 rfl ?_
 refine ⟨_, rfl, ?_⟩
 exact ⟨k, Y, rfl, hN, hE, H1.transS⟩
theorem RestG (b : Nat) (X : Gm) (hwf : Wf X.abs) (w : World) (hS : Sep w.heap.size (fps (gW b X)) w (gW b X)) :
  Z0f P 14 [ptr b] w fun r w' => ∃ (k : Nat) (Y : Gm), r = .int .i64 (k : Int) ∧ Z1Y X.abs k Y.abs ∧ Z1L Y.abs = none ∧ Z1C w w' (gW b X) (gW b Y) := by
 refine Z0o func14 rfl ntmps14 rfl ?_
 have H0 : St w w.heap.size (fps (gW b X)) (gW b X) w := St.startS hS
 refine Z03 (Z00 (Zg (Z01 (Z02 ?_))))
 refine Zk [0] ?_
 refine Z03 (Z00 (Zm (Z0b rfl rfl rfl (Z09 Z3K rfl rfl rfl ?_))))
 refine Zc func36 (RestD b X hwf w (St.rows (τ := gW b X) (σ := []) H0)) ?_
 rintro _ w1 ⟨k, Y, rfl, hN, hE, hX2⟩
 have H1 := hX2 _ _ _ [] H0
 simp only [gW, List.cons_append, List.nil_append] at H1
 refine Zg (Z01 (Z02 ?_))
 refine Zk [2] ?_
 refine Z0i ?_
 refine Z0e results14 rfl ?_
 refine ⟨_, rfl, ?_⟩
 exact ⟨k, Y, rfl, hN, hE, H1.transS⟩
theorem BuiltG (b : Nat) (X : Gm) (hX : X.sg.length = 41) (s : Int) (w : World) (hGF : GF b X w) :
  Z0f P 31 [ptr b, .int .i64 s] w fun r w' => r = .int .i64 (sgF X.abs s).built ∧ w = w' := by
 refine Z0o func31 rfl ntmps31 rfl ?_
 refine Z03 (Z00 (Zg (Z01 (Z02 ?_))))
 refine Zk [0, 1] ?_
 refine Z03 (Z00 (Zm (Z0b rfl rfl rfl (Z09 fo63_1 rfl rfl rfl (Zm ?_)))))
 refine Z13 rfl rfl func56 rfl rfl (.cons rfl (.cons rfl .nil)) (BuiltT b X hX s _ hGF.hb) ?_
 refine Zg (Z01 (Z02 ?_))
 refine Zk [4] ?_
 refine Z0i ?_
 refine Z0e results31 rfl ?_
 refine ⟨_, rfl, ?_⟩
 exact ⟨rfl, rfl⟩
theorem Z3o (b : Nat) (X : Gm) (hX : X.sg.length = 41) (s : Int) (w : World) (hGF : GF b X w) :
  Z0f P 40 [ptr b, .int .i64 s] w fun r w' => r = .bool (sgF X.abs s).done ∧ w = w' := by
 refine Z0o func40 rfl ntmps40 rfl ?_
 refine Z03 (Z00 (Zg (Z01 (Z02 ?_))))
 refine Zk [0, 1] ?_
 refine Z03 (Z00 (Zm (Z0b rfl rfl rfl (Z09 fo63_1 rfl rfl rfl (Zm ?_)))))
 refine Z13 rfl rfl func65 rfl rfl (.cons rfl (.cons rfl .nil)) (CompleteT b X hX s _ hGF.hb) ?_
 refine Zg (Z01 (Z02 ?_))
 refine Zk [4] ?_
 refine Z0i ?_
 refine Z0e results40 rfl ?_
 refine ⟨_, rfl, ?_⟩
 exact ⟨rfl, rfl⟩
theorem LaidG (b : Nat) (X : Gm) (hwf : Wf X.abs) (s : Int) (w : World) (hGF : GF b X w) :
  Z0f P 39 [ptr b, .int .i64 s] w fun r w' => r = .int .i64 ((sgF X.abs s).laid : Int) ∧ w = w' := by
 refine Z0o func39 rfl ntmps39 rfl ?_
 refine Z03 (Z00 (Zg (Z01 (Z02 ?_))))
 refine Zk [0, 1] ?_
 refine Z03 (Z00 (Zm (Z0b rfl rfl rfl (Z09 fo63_1 rfl rfl rfl (Zm ?_)))))
 refine Z13 rfl rfl func64 rfl rfl (.cons rfl (.cons rfl .nil)) (LaidT b X hwf.sgX s (fun s y hy => by have := (hwf.sok s y.s (by show (X.sg.map (·.s))[s]? = _; rw [List.getElem?_map, hy]; rfl)).le; exact this) _ hGF.hb (fun s y hy => (hGF.vs hy).1)) ?_
 refine Zg (Z01 (Z02 ?_))
 refine Zk [4] ?_
 refine Z0i ?_
 refine Z0e results39 rfl ?_
 refine ⟨_, rfl, ?_⟩
 exact ⟨rfl, rfl⟩
theorem HandG (b : Nat) (X : Gm) (hwf : Wf X.abs) (i : Int) (w : World) (hGF : GF b X w) :
  Z0f P 17 [ptr b, .int .i64 i] w fun r w' => r = handVal (Z3c X.abs i) ∧ Grow w w' [] := by
 refine Z0o func17 rfl ntmps17 rfl ?_
 have H0 := St.start w
 refine Z03 (Z00 ?_)
 refine Z0X H0 ta44 rfl rfl (fun b0_0 w1 H1 => ?_)
 refine Z01 (Z02 (Z03 (Z00 (Zm (Z0b rfl rfl rfl (Z09 Z3K rfl rfl rfl (Zm ?_)))))))
 refine Zc func41 (HandD b X hwf i w1 (hGF.arg H1)) ?_
 rintro _ w2 ⟨rfl, hG⟩
 have H2 := hG _ _ _ _ H1
 simp only [Zca, Zna] at H2
 refine Z0m H2 .head (.zero (.zero (.zero .nil))) rfl tz44 rfl rfl ZC (fun w3 H3 => ?_)
 refine Z01 (Z02 ?_)
 refine Zk [4] ?_
 refine Z0i ?_
 refine Z2n results17 (.cell rfl (Z0E H3 mem0 underlying44 rfl tz44 (.take (.take (.take .nil)))) .nil) ?_
 refine ⟨_, rfl, ?_⟩
 have H4 := St.del .head H3
 exact ⟨rfl, H4.grows⟩
section
variable {P : Program} {N : Nat} {ρ : Env} {w w0 : World} {ops : Array Oper} {rest : List Oper} {d : Nat} {ty : TypeId} {pos : String} {af : Array Edge} {g : Option (Nat × Bool)} {B : Nat} {M : Nat → Prop} {σ : List As}
theorem l_eqlsn {Q : Z26} {x : Operand} {A : Option Addr} {n c : Nat} {T U e : TypeId} (hT : P.underlying T = some (.slice e)) (hg : Z0t ops ρ g = true) (hN : Nat.blt d N = true) (hx : Z0g ρ x = some (.slice A n c)) (h : RunL P N ops Q rest ((d, .bool (decide (A.isNone = true))) :: ρ) w) : RunL P N ops Q (⟨some d, .binOp .eql T x (.const (.slice none 0 0)) U, ty, pos, af, g⟩ :: rest) ρ w :=
 Z1n hg rfl hN (fun a ha => by
  have hgd : (eqGuard .eql T x (.const (.slice none 0 0)) (.slice A n c) (.slice none 0 0)).run P w = .ok () w := by simp [eqGuard]
  have hy : a.eval (.const (.slice none 0 0)) = .slice none 0 0 := rfl
  simp only [execOp, ha.eval hx, hy, Sem.run_bind, hgd, Result.andThen_ok]
  rw [show (binOp .eql T (.slice A n c) (.slice none 0 0)).run P w = .ok (.bool A.isNone) w by simp only [binOp]; simp [run_equal_slice_nil w T e A n c hT]]
  cases A <;> rfl) h
theorem v_lit0k {Q : Post} {t e k : Nat} (hw : St w0 B M σ w) (hg : Z0t ops ρ g = true) (hN : Nat.blt d N = true) (hT : P.underlying t = some (.slice e)) (hsz : (P.info? e).map (·.size) = some k)
  (n : ∀ v w', St w0 B M (As.rk e k v [] :: σ) w' → RunL P N ops ⟨false, Q⟩ rest ((d, v) :: ρ) w') : RunL P N ops ⟨false, Q⟩ (⟨some d, .buildSlice t 0 #[], ty, pos, af, g⟩ :: rest) ρ w := by
 cases hq : P.info? e with
 | none => simp [hq] at hsz
 | some i =>
  have h1 : i.size = k := by simpa [hq] using hsz
  refine Z2k (v := .slice (some ⟨w.heap.size, 0, none⟩) 0 0) (fun h => by cases h) hg rfl hN (fun a ha => ?_) (n _ (w.alloc (.cells #[] e)) (hw.new _ _ ⟨by simp, .inr ⟨w.heap.size, 0, 0, #[], rfl, Nat.le_refl _, by simp, heap_alloc_new w _, by simp, by simp⟩⟩ fun k hk => ?_))
  ·simp [execOp, Instr.buildSlice, run_underlying hT, sizeOf, typeInfo, hq, h1, Instr.fill, newRow]
   rw [show ∀ f : Nat → Value, Array.map f (Array.range 0) = #[] from fun f => by apply Array.eq_empty_of_size_eq_zero; simp]
  simpa [As.own, Value.ownBlock] using hk.symm
theorem k_appends {Q : Post} {s x : Operand} {t e : TypeId} {z v vx : Value} {k bytes : Nat} {rs ns : List (List Value)} (hw : St w0 B M (As.rk e k v rs :: σ) w) (hg : Z0t ops ρ g = true) (hN : Nat.blt d N = true) (ht : P.underlying t = some (.slice e)) (hi : (P.info? e).map (fun i => (i.zero, i.size, i.bytes)) = some (some z, k, bytes)) (hzs : z.cells.size = k) (hk : 0 < k)
  (hs : Z0g ρ s = some v) (hx : Z0g ρ x = some vx) (hn : IK w k vx ns) (hbytes : (rs.length + ns.length) * bytes ≤ 140737488355328) (h63 : rs.length + ns.length ≤ 9223372036854775807)
  (nx : ∀ v' w', St w0 B M (As.rk e k v' (rs ++ ns) :: σ) w' → RunL P N ops ⟨false, Q⟩ rest ((d, v') :: ρ) w') : RunL P N ops ⟨false, Q⟩ (⟨some d, .call ⟨.builtin .append, #[s, x], #[t, t]⟩, ty, pos, af, g⟩ :: rest) ρ w := by
 obtain ⟨hR, A, c, rfl, hc, hsl⟩ := hn
 refine Z48 hw hg hN ht hi hzs hs hx hR.len hsl (fun h => ?_) (fun u hu => ?_) hbytes h63 (fun A' c' w' hw' => nx _ w' (hw'.cast (by unfold As.rk; rw [List.length_append, List.flatten_append])))
 ·rcases Nat.eq_zero_or_pos ns.length with h0 | h0
  ·exact h0
  obtain ⟨ad, e⟩ := hsl.some_ (by rw [hR.len]; exact Nat.mul_pos h0 hk)
  rw [h] at e
  cases e
 obtain ⟨r, hr, hu⟩ := List.mem_flatten.1 hu
 exact (hR r hr).2 u hu
end
theorem cloneW (v : Value) (rs : List (List Value)) (hl : rs.length ≤ 100000) (w : World) (hv : IK w 2 v rs) :
  Z0f P 42 [v] w fun r w' => ∃ v', r = v' ∧ Grow w w' [As.rk 85 2 v' rs] := by
 refine Z0o func42 rfl ntmps42 rfl ?_
 have H0 := St.start w
 obtain ⟨hRs, A, c, rfl, hc, hsl⟩ := hv
 have hv : IK w 2 (.slice A rs.length c) rs := ⟨hRs, A, c, rfl, hc, hsl⟩
 refine Z03 (Z00 (Zg (Z01 (Z02 ?_))))
 refine Zk [0] ?_
 refine Z03 (Z03 (Z00 (Zm ?_)))
 refine l_eqlsn underlying47 rfl rfl rfl ?_
 refine Z01 (Z02 ?_)
 refine Zk [0, 4] ?_
 (first | refine Z0c rfl ?_ ?_ | refine Z08 rfl ?_ ?_) <;> intro hc0
 ·refine Z03 (Z00 (Zg (Z01 (Z02 ?_))))
  refine Zk [2] ?_
  refine Z0i ?_
  refine Z07 ?_
  refine Z0e results42 rfl ?_
  refine ⟨_, rfl, ?_⟩
  have hA : A = none := by simpa using hc0
  obtain rfl : rs = [] := by
   rcases Nat.eq_zero_or_pos rs.length with h0 | h0
   ·exact List.eq_nil_of_length_eq_zero h0
   obtain ⟨ad, e⟩ := hsl.some_ (by rw [hRs.len]; omega)
   rw [hA] at e
   cases e
  exact ⟨_, rfl, (H0.nilk 85 2).grows⟩
 refine Z0a (Z02 ?_)
 refine Zk [0] ?_
 refine Z03 (Z00 ?_)
 refine v_lit0k H0 rfl rfl underlying47 tz85 (fun v3_0 w1 H1 => ?_)
 refine Zm ?_
 refine k_appends H1 rfl rfl underlying47 ti85 rfl (by decide) rfl rfl (H1.ikarg hv) (by simp; omega) (by simp; omega) (fun v3_2 w2 H2 => ?_)
 refine Zg (Z01 (Z02 ?_))
 refine Zk [2] ?_
 refine Z0i ?_
 refine Z0e results42 rfl ?_
 refine ⟨_, rfl, ?_⟩
 exact ⟨_, rfl, H2.grows⟩
theorem Z4h (b : Nat) (X : Gm) (hwf : Wf X.abs) (w : World) (hGF : GF b X w) :
  Z0f P 25 [ptr b] w fun r w' => r = .bool (overG X.abs) ∧ Grow w w' [] := by
 refine Z0o func25 rfl ntmps25 rfl ?_
 have H0 := St.start w
 refine Z03 (Z00 (Zg (Z01 (Z02 ?_))))
 refine Zk [0] ?_
 refine Z03 ?_
 have H1 := H0.drewn
 refine Z1a (n := 9) [Zz,Zz,Zz,Zz,Zz,Zz,Zz,Zz,Zz] (fun wS => True) ZK rfl rfl ?_
 apply Zu (L' := [Zy,Zz,Zz,Zz,Zz,Zz,Zz,Zz,Zz]) 0 (trivial)
 ·intro wS sS
  refine Zm (Z01 ?_)
  exact Z04 rfl
 refine Z0N (L' := [Zy,Zy,Zz,Zz,Zz,Zz,Zz,Zz,Zz]) 1 rfl ZK ZK ZK rfl rfl rfl (trivial) rfl ?_
 apply Zu (L' := [Zy,Zy,Zy,Zz,Zz,Zz,Zz,Zz,Zz]) 2 (trivial)
 ·intro wS sS
  refine Z09 Z3K rfl rfl rfl (Z01 ?_)
  exact Z04 rfl
 apply Zu (L' := [Zy,Zy,Zy,Zy,Zz,Zz,Zz,Zz,Zz]) 3 (trivial)
 ·intro wS sS
  refine Zm (Z01 ?_)
  exact Z04 rfl
 refine Z0N (L' := [Zy,Zy,Zy,Zy,Zy,Zz,Zz,Zz,Zz]) 4 rfl ZK ZK ZK rfl rfl rfl (trivial) rfl ?_
 apply Zu (L' := [Zy,Zy,Zy,Zy,Zy,Zy,Zz,Zz,Zz]) 5 (trivial)
 ·intro wS sS
  refine Z09 Z3K rfl rfl rfl (Z01 ?_)
  exact Z04 rfl
 refine Z0v (L' := [Zy,Zy,Zy,Zy,Zy,Zy,Zy,Zz,Zz]) 6 ZK rfl rfl ?_
 refine Zp func45 (HandsD b X w.drew (hGF.arg H1)) ?_
 refine Z01 ?_
 refine Z0n (trivial) ?_
 refine Z0v (L' := [Zy,Zy,Zy,Zy,Zy,Zy,Zy,Zy,Zz]) 7 ZK rfl rfl ?_
 refine Zc func44 (OverD b X hwf w.drew (hGF.arg H1)) ?_
 rintro _ w2 ⟨rfl, hG⟩
 have H2 := hG _ _ _ _ H1
 simp only [Zca, Zna] at H2
 refine Z01 ?_
 refine Z0n (trivial) ?_
 apply Zu (L' := [Zy,Zy,Zy,Zy,Zy,Zy,Zy,Zy,Zy]) 8 (trivial)
 ·intro wS sS
  refine Zg (Z01 ?_)
  exact Z04 rfl
 refine Z0B ZK ?_
 refine Z02 ?_
 refine Zk [2] ?_
 refine Z0i ?_
 refine Z0e results25 rfl ?_
 refine ⟨_, rfl, ?_⟩
 exact ⟨rfl, H2.grows⟩
def Z2J (G : GW) (i : Int) : List (List Value) := if 0 ≤ i then (match G.hs[i.toNat]? with
 | some h => Z0Y (h.asks.take h.nx)
 | none => []) else []
theorem ReadG (b : Nat) (X : Gm) (hwf : Wf X.abs) (i : Int) (w : World) (hGF : GF b X w) :
  Z0f P 20 [ptr b, .int .i64 i] w fun r w' => ∃ v, r = v ∧ Grow w w' [As.rk 85 2 v (Z2J X.abs i)] := by
 refine Z0o func20 rfl ntmps20 rfl ?_
 have H0 := St.start w
 have hn16 : X.hs.length ≤ 16 := by simpa [Gm.abs] using hwf.n16
 have hfr16 : X.fr ≤ 16 := hwf.fr
 refine Z03 (Z00 (Zg (Z01 (Z02 ?_))))
 refine Zk [0, 1] ?_
 refine Z03 (Z03 (Z00 (Zm ?_)))
 refine Zl ?_
 refine Zm ?_
 apply l_or 7 [0, 1] rfl rfl (.cons rfl (.cons rfl (.cons rfl .nil))) rfl rfl (fun _ => rfl) rfl rfl rfl
 ·intro hg1_3
  refine Zm (Zm (Z0b rfl rfl rfl (Z09 fo63_2 rfl rfl rfl ?_)))
  refine Z05 (Z0r (hGF.arg H0).hb) mem0 rfl rfl underlying53 rfl rfl (gC_vr hwf.sgX) ?_
  refine Z3L rfl rfl underlying53 rfl (hGF.arg H0).hr ?_
  refine Z0j (s := 13) (v' := .int .i64 (X.hs.length : Int)) rfl (by rw [List.length_map]) ?_
  refine Zh ?_
  refine Z01 ?_
  exact Z0O rfl (.cons rfl (ZF hg1_3) (.cons rfl rfl (.cons rfl rfl .nil)))
  all_goals infer_instance
 refine Z01 (Z02 ?_)
 refine Zk [0, 1, 15] ?_
 (first | refine Z0c rfl ?_ ?_ | refine Z08 rfl ?_ ?_) <;> intro hc0
 ·refine Z03 (Z00 (Zg (Z01 (Z02 ?_))))
  refine Zk [4] ?_
  refine Z0i ?_
  refine Z07 ?_
  refine Z0e results20 rfl ?_
  refine ⟨_, rfl, ?_⟩
  have e : Z2J X.abs i = [] := by
   unfold Z2J
   split
   ·rename_i h
    rw [List.getElem?_eq_none (by simp only [Gm.abs, List.length_map]; omega)]
   rfl
  rw [e]
  exact ⟨_, rfl, (H0.nilk 85 2).grows⟩
 refine Z0a (Z02 ?_)
 refine Zk [0, 1] ?_
 refine Z03 (Z00 ?_)
 have hin : 0 ≤ i ∧ i < X.hs.length := by omega
 obtain ⟨m, hm⟩ : ∃ m, X.hs[i.toNat]? = some m := ⟨_, List.getElem?_eq_getElem ZO⟩
 have hrl : (Z0Y (m.h.asks.take m.h.nx)).length ≤ 100000 := by
  have := (hwf.hd _ _ (Z37 hm)).al
  simp [Z0Y]
  omega
 refine Zm (Z0b rfl rfl rfl (Z09 fo63_2 rfl rfl rfl ?_))
 refine Z05 (Z0r (hGF.arg H0).hb) mem0 rfl rfl underlying53 rfl rfl (gC_vr hwf.sgX) ?_
 refine Zm ?_
 refine Z0j (s := 20) (v' := .int .i64 ((i.toNat : Nat) : Int)) rfl (congrArg (Value.int .i64) ZO) ?_
 refine Z4k rfl rfl rfl rfl underlying53 tz47 underlying47 rfl rfl rfl (hGF.arg H0).hr (by rw [List.length_map]; omega) (show (X.hs.map (·.vd))[i.toNat]? = some m.vd by rw [List.getElem?_map, hm]; rfl) ?_ rfl
 refine Z0I rfl rfl func42 rfl rfl (.cons rfl .nil) (cloneW m.vd _ hrl w ((hGF.arg H0).vd hm)) ?_
 rintro v w1 ⟨_, rfl, hG⟩
 have H1 := hG _ _ _ _ H0
 simp only [Zca, Zna] at H1
 refine Zg (Z01 (Z02 ?_))
 refine Zk [4] ?_
 refine Z0i ?_
 refine Z0e results20 rfl ?_
 refine ⟨_, rfl, ?_⟩
 have e : Z2J X.abs i = Z0Y (m.h.asks.take m.h.nx) := by
  unfold Z2J
  rw [if_pos hin.1, Z37 hm]
 rw [e]
 exact ⟨_, rfl, H1.grows⟩
theorem l_movesLen {G : GW} {k : Nat} : ((Z0A G)[k]?).isSome = decide (k < (Z0A G).length) := by
 by_cases h : k < (Z0A G).length
 ·rw [List.getElem?_eq_getElem h]; simp [h]
 rw [List.getElem?_eq_none ZO]; simp [h]
def doRes (G : GW) (k : Int) : Int × GW := if 0 ≤ k ∧ k < (Z0A G).length then (0, Z1E G k.toNat) else (281, G)
theorem DoG (b : Nat) (X : Gm) (hwf : Wf X.abs) (k : Int) (hk : -9223372036854775808 ≤ k ∧ k ≤ 9223372036854775807) (w : World) (hS : Sep w.heap.size (fps (gW b X)) w (gW b X)) :
  Z0f P 10 [ptr b, .int .i64 k] w fun r w' => ∃ Y : Gm, r = .int .i64 (doRes X.abs k).1 ∧ Y.abs = (doRes X.abs k).2 ∧ Z1C w w' (gW b X) (gW b Y) := by
 refine Z0o func10 rfl ntmps10 rfl ?_
 have H0 : St w w.heap.size (fps (gW b X)) (gW b X) w := St.startS hS
 refine Z03 (Z00 (Zg (Z01 (Z02 ?_))))
 refine Zk [0, 1] ?_
 refine Z03 (Z03 (Z00 (Zm ?_)))
 refine Zl ?_
 refine Zm ?_
 rcases Classical.em (k < 0) with hk0 | hk0
 ·refine Z0j (s := 7) (v' := .bool true) rfl (by rw [decide_eq_true hk0]) ?_
  refine Z1Z rfl rfl ?_
  refine Z1Z rfl rfl ?_
  refine Z1Z rfl rfl ?_
  refine Z1Z rfl rfl ?_
  refine Z1Z rfl rfl ?_
  refine Z1Z rfl rfl ?_
  refine Z1l rfl rfl rfl rfl ?_
  refine Z01 (Z02 ?_)
  refine Zk [14] ?_
  refine Z4L rfl rfl ?_
  refine Z03 (Z00 (Zg (Z01 (Z02 ?_))))
  refine Zk [4] ?_
  refine Z0i ?_
  refine Z07 ?_
  refine Z0e results10 rfl ?_
  refine ⟨_, rfl, ?_⟩
  have e : doRes X.abs k = (281, X.abs) := if_neg ZO
  rw [e]
  exact ⟨X, rfl, rfl, H0.transS⟩
 refine Z0j (s := 7) (v' := .bool false) rfl (by rw [decide_eq_false hk0]) ?_
 refine Zm (Z0b rfl rfl rfl (Z09 Z3K rfl rfl rfl ?_))
 refine Zm ?_
 refine Zc func32 (doD b X hwf k ZO w (St.rows (τ := gW b X) (σ := []) H0)) ?_
 rintro _ w90 ⟨Y, rfl, hY, hX⟩
 have H90 := hX _ _ _ [] H0
 simp only [gW, List.cons_append, List.nil_append] at H90
 clear hX
 refine Z3v rfl rfl rfl ?_
 refine Z0Z rfl rfl rfl rfl ?_
 refine Z01 (Z02 ?_)
 refine Zk [14] ?_
 (first | refine Z0c rfl ?_ ?_ | refine Z08 rfl ?_ ?_) <;> intro hc1
 ·refine Z03 (Z00 (Zg (Z01 (Z02 ?_))))
  refine Zk [4] ?_
  refine Z0i ?_
  refine Z07 ?_
  refine Z0e results10 rfl ?_
  refine ⟨_, rfl, ?_⟩
  have hlt : ¬ k < (Z0A X.abs).length := by
   have h := hc1
   rw [l_movesLen] at h
   simp at h
   omega
  have e : doRes X.abs k = (281, X.abs) := if_neg ZO
  have e2 : Z1E X.abs k.toNat = X.abs := by
   unfold Z1E
   rw [List.getElem?_eq_none ZO]
  rw [e]
  exact ⟨Y, rfl, by rw [hY, e2], H90.transS⟩
 refine Z0a (Z02 ?_)
 refine Zk [] ?_
 refine Z03 (Z00 (Zg (Z01 (Z02 ?_))))
 refine Z0i ?_
 refine Z0e results10 rfl ?_
 refine ⟨_, rfl, ?_⟩
 have hlt : k < (Z0A X.abs).length := by
  have h := hc1
  rw [l_movesLen] at h
  simp at h
  omega
 have e : doRes X.abs k = (0, Z1E X.abs k.toNat) := if_pos ZO
 rw [e]
 exact ⟨Y, rfl, hY, H90.transS⟩
section
variable {P : Program} {N : Nat} {ρ : Env} {w w0 : World} {ops : Array Oper} {rest : List Oper} {d : Nat} {ty : TypeId} {pos : String} {af : Array Edge} {g : Option (Nat × Bool)} {B : Nat} {M : Nat → Prop} {σ : List As}
theorem l_lit3 {Q : Post} {t e : TypeId} {x : Operand} {y0 y1 y2 z0 z1 z2 : Value} {bytes : Nat} (hw : St w0 B M σ w) (hg : Z0t ops ρ g = true) (hN : Nat.blt d N = true) (hT : P.underlying t = some (.slice e)) (hi : (P.info? e).map (fun i => (i.zero, i.size, i.bytes)) = some (some (.agg #[z0, z1, z2]), 3, bytes))
  (hz : (Value.agg #[z0, z1, z2]).cells = #[z0, z1, z2]) (hx : Z0g ρ x = some (.agg #[y0, y1, y2])) (hc : (Value.agg #[y0, y1, y2]).cells = #[y0, y1, y2])
  (n : ∀ b w', St w0 B M (As.blk b e [y0, y1, y2] :: σ) w' → RunL P N ops ⟨false, Q⟩ rest ((d, .slice (some ⟨b, 0, none⟩) 1 1) :: ρ) w') : RunL P N ops ⟨false, Q⟩ (⟨some d, .buildSlice t 1 #[(0, x)], ty, pos, af, g⟩ :: rest) ρ w := by
 obtain ⟨i, hi, h2, h3, h4⟩ := info_parts hi
 refine Z2k (fun h => by cases h) hg rfl hN (fun a ha => ?_) (n w.heap.size (w.alloc (.cells #[y0, y1, y2] e)) (hw.new _ _ (heap_alloc_new w _) fun k hk => hk))
 have hr : (Instr.buildSlice t 1 #[(0, .agg #[y0, y1, y2])]).run P w = .ok (.slice (some ⟨w.heap.size, 0, none⟩) 1 1) (w.alloc (.cells #[y0, y1, y2] e)) := by
  simp [Instr.buildSlice, run_underlying hT, sizeOf, typeInfo, hi, h2, h3, zeroValue, hz, Instr.fill, hc, newRow, Array.range, List.range]
  generalize i.size = m at h3 ⊢
  subst h3
  refine congrArg (fun z => w.alloc (Obj.cells z e)) (Array.ext (by simp) fun i h1 h2 => ?_)
  have : i = 0 ∨ i = 1 ∨ i = 2 := by simp at h2; omega
  rcases this with rfl | rfl | rfl <;> simp
 simp only [execOp]
 simp [ha.eval hx, hr]
end
abbrev addW (b : Nat) (X : Gm) (L : List (List Value)) : List As := [As.blk b 63 (gC X), As.rk 71 3 X.vh L]
theorem AddD (b c : Nat) (X : Gm) (L : List (List Value)) (hL : L.length ≤ 16) (row : List Value) (hr : row.length = 3) (hr1 : ∀ u ∈ row, u.oneCell' = true) (w : World) (hS : Sep w.heap.size (fps (addW b X L)) w (addW b X L)) (hc : ∀ w1 : World, (∀ k, k < w.heap.size → ¬ fps (addW b X L) k → w1.heap[k]? = w.heap[k]?) → (As.blk c 71 row).ok w1) :
  Z0f P 28 [ptr b, .slice (some ⟨c, 0, none⟩) 1 1] w fun r w' => ∃ v, r = .tuple #[] ∧ Z1C w w' (addW b X L) (addW b { X with vh := v } (L ++ [row])) := by
 refine Z0o func28 rfl ntmps28 rfl ?_
 have H0 : St w w.heap.size (fps (addW b X L)) (addW b X L) w := St.startS hS
 refine Z00 (Zm (Zm (Z0b rfl rfl rfl (Z09 Z2I rfl rfl rfl ?_))))
 refine Z05 H0 mem0 rfl rfl underlying54 rfl rfl rfl ?_
 refine Zm ?_
 have H1 := St.frontL (l := [_]) H0
 simp only [Zca, Zna] at H1
 refine Z19 (r := row) H1 rfl rfl underlying54 ti71 rfl rfl rfl hr (Z1M (hc _ fun k hk hf => H1.ext.block k hk hf)) hr1 ZO ZO (fun v0_6 w2 H2 => ?_)
 refine Z0b rfl rfl rfl (Z09 Z2I rfl rfl rfl ?_)
 refine Z0s H2 (.tail .head) .zero rfl tz54 rfl rfl (Z1O (H2.ok mem0)) (fun w3 H3 => ?_)
 refine Z01 ?_
 try dsimp only
 refine Z1o results28 ?_
 refine ⟨_, rfl, ?_⟩
 have H4 := St.front1 H3
 exact ⟨v0_6, rfl, H4.transS⟩
abbrev nilV : Value := .slice none 0 0
def newH (l : List Int) : Hd := ⟨l, if l.length = 0 then 4 else 1, 0, -1⟩
def newG (ls : List (List Int)) : GW := ⟨ls.map newH, List.replicate 41 ⟨0, 0, false⟩, 0⟩
def okR (l : List Int) : Prop := l.length ≤ 64 ∧ ∀ q ∈ l, -342 ≤ q ∧ q ≤ 308
def okA (ls : List (List Int)) : Prop := ls.length ≤ 16 ∧ ∀ l ∈ ls, okR l
def X0 (vr : Value) : Gm := ⟨nilV, vr, 0, [], List.replicate 41 ⟨⟨0, 0, false⟩, nilV⟩⟩
abbrev addX (X : Gm) (v : Value) (m : Hm) : Gm := { X with vh := v, hs := X.hs ++ [m] }
theorem rest_snoc {b : Nat} {X : Gm} {v : Value} {m : Hm} : (hrow b X.hs.length m ++ Z1t b X).Perm (Z1t b (addX X v m)) := by
 unfold Z1t
 show List.Perm _ (((X.hs ++ [m]).mapIdx (hrow b)).flatten ++ X.sg.mapIdx srow)
 rw [List.mapIdx_append, List.flatten_append]
 simp only [List.mapIdx_cons, List.mapIdx_nil, List.flatten_cons, List.flatten_nil, List.append_nil, Nat.zero_add]
 rw [← List.append_assoc]
 exact (List.perm_append_comm).append_right _
abbrev nwR (b : Nat) (X : Gm) (n : Nat) : List As := [As.blk b 63 (gC X), As.rk 71 3 X.vh (X.hs.map Z0V), As.ro 47 X.vr (List.replicate n nilV), As.sep (Z1t b X)]
structure NwOk (ls : List (List Int)) (i : Nat) (X : Gm) : Prop where
 hs : X.hs.map (·.h) = (ls.take i).map newH
 vd : X.hs.map (·.vd) = List.replicate i nilV
 sg : X.sg = List.replicate 41 ⟨⟨0, 0, false⟩, nilV⟩
 fr : X.fr = 0
 len : X.hs.length = i
theorem NwOk.abs {ls : List (List Int)} {X : Gm} (h : NwOk ls ls.length X) : X.abs = newG ls := by
 unfold Gm.abs newG
 rw [h.hs, h.sg, h.fr, List.take_length, List.map_replicate]
theorem NwOk.snoc {ls : List (List Int)} {i : Nat} {X : Gm} {l : List Int} {v : Value} {bw bg bi bs bp wb : Nat} {vn vp : Value} (h : NwOk ls i X) (hl : ls[i]? = some l) : NwOk ls (i + 1) (addX X v (newM l bw bg bi bs bp wb vn vp)) := by
 refine ⟨?_, ?_, h.sg, h.fr, by simp [h.len]⟩
 ·show (X.hs ++ [_]).map _ = _
  rw [List.map_append, h.hs, List.take_add_one, hl, List.map_append]
  rfl
 show (X.hs ++ [_]).map _ = _
 rw [List.map_append, h.vd, List.replicate_succ']
 rfl
theorem Z3N {q : Int} : (Z0K q).2.2 = 0 ↔ (-342 ≤ q ∧ q ≤ 308) := by
 unfold Z0K
 split <;> simp <;> omega
theorem segs_set {l : List Int} {k : Nat} (hk : k < l.length) : (Z1h (l.take k) ++ List.replicate (l.length - k) 0).set k (Z0K (l.getD k 0)).1 = Z1h (l.take (k + 1)) ++ List.replicate (l.length - (k + 1)) 0 := by
 have e : (Z1h (l.take k)).length = k := by simp [Z1h]; omega
 rw [List.set_append_right _ _ ZO, e, Nat.sub_self, show l.length - k = (l.length - (k + 1)) + 1 by omega, List.replicate_succ, List.set_cons_zero, List.take_add_one, List.getElem?_eq_getElem hk]
 simp only [Z1h, List.map_append, List.map_cons, List.map_nil, List.append_assoc, List.cons_append, List.nil_append, Option.toList_some, List.getD_eq_getElem?_getD, List.getElem?_eq_getElem hk, Option.getD_some]
theorem plcs_set {l : List Int} {k : Nat} (hk : k < l.length) : (Z2a (l.take k) ++ List.replicate (l.length - k) 0).set k (Z0K (l.getD k 0)).2.1 = Z2a (l.take (k + 1)) ++ List.replicate (l.length - (k + 1)) 0 := by
 have e : (Z2a (l.take k)).length = k := by simp [Z2a]; omega
 rw [List.set_append_right _ _ ZO, e, Nat.sub_self, show l.length - k = (l.length - (k + 1)) + 1 by omega, List.replicate_succ, List.set_cons_zero, List.take_add_one, List.getElem?_eq_getElem hk]
 simp only [Z2a, List.map_append, List.map_cons, List.map_nil, List.append_assoc, List.cons_append, List.nil_append, Option.toList_some, List.getD_eq_getElem?_getD, List.getElem?_eq_getElem hk, Option.getD_some]
theorem nil_rows {w0 w : World} {B : Nat} {M : Nat → Prop} {σ : List As} : ∀ (l : List As), (∀ A ∈ l, ∃ E k, A = As.rk E k nilV []) → St w0 B M σ w → St w0 B M (As.sep l :: σ) w
 | [], _, h => Z2P h
 | A :: l, hl, h => by
  obtain ⟨E, k, rfl⟩ := hl A (.head _)
  have h2 := St.nilk (nil_rows l (fun X hX => hl X (.tail _ hX)) h) E k
  exact ⟨h2.ext, h2.base, sep_in h2.sep⟩
theorem rest0 {vr : Value} {b : Nat} : ∀ A ∈ Z1t b (X0 vr), ∃ E k, A = As.rk E k nilV [] := fun A hA => by
 have hA : A ∈ ([] : List As) ++ (List.replicate 41 (⟨⟨0, 0, false⟩, nilV⟩ : Sm)).mapIdx srow := hA
 rw [List.nil_append] at hA
 obtain ⟨s, hs, rfl⟩ := List.mem_iff_getElem.1 hA
 refine ⟨85, 2, ?_⟩
 simp only [List.getElem_mapIdx, List.getElem_replicate]
 rfl
theorem Z4x {w : World} {E : TypeId} {k n : Nat} {v : Value} {cs : List Value} (h : (As.own E k v n cs).ok w) : v.oneCell' = true := by
 have h : Go.Vc.Own w E k v n cs := h
 rcases h.2 with ⟨rfl, _⟩ | ⟨g, off, cap, cur, rfl, _⟩ <;> rfl
theorem Z2G {E : TypeId} {k : IntKind} {v : Value} {n : Nat} {x : Int} : As.ri E k v (List.replicate n x) = As.ro E v (List.replicate n (.int k x)) := by
 unfold As.ri ints
 rw [List.map_replicate]
theorem NwOk.gw {ls : List (List Int)} {X : Gm} {b : Nat} (h : NwOk ls ls.length X) : nwR b X ls.length = gW b X := by
 unfold nwR
 rw [← h.vd]
theorem NewG (v : Value) (vs : List Value) (ls : List (List Int)) (hvl : vs.length = ls.length) (hvb : vs.length ≤ 1099511627776) (hrg : ∀ l ∈ ls, Rg (-9223372036854775808) 9223372036854775807 l ∧ 0 ≤ l.length) (w : World) (hv : IV w v vs) (hvs : ∀ (j : Nat) (x : Value) (l : List Int), vs[j]? = some x → ls[j]? = some l → IV w x (ints .i64 l)) :
  Z0f P 5 [v] w fun r w' => ∃ rv e, r = .tuple #[rv, .int .i64 e] ∧ ((¬ okA ls ∧ rv = .pointer none ∧ e = 280 ∧ Grow w w' []) ∨ (okA ls ∧ e = 0 ∧ ∃ (b : Nat) (X : Gm), rv = ptr b ∧ X.abs = newG ls ∧ Grow w w' (gW b X))) := by
 refine Z0o func5 rfl ntmps5 rfl ?_
 have H0 := St.start w
 refine Z03 (Z00 (Zg (Zg (Z01 (Z02 ?_)))))
 refine Zk [0] ?_
 refine Z03 (Z03 (Z00 (Zm ?_)))
 refine Z3L rfl rfl underlying22 rfl (by first | exact H0.iarg hv | assumption) ?_
 refine Zw ?_
 refine Z01 (Z02 ?_)
 refine Zk [0, 14] ?_
 (first | refine Z0c rfl ?_ ?_ | refine Z08 rfl ?_ ?_) <;> intro hc0
 ·refine Z03 (Z00 (Zg (Zg (Z01 (Z02 ?_)))))
  refine Zk [2, 3] ?_
  refine Z0i ?_
  refine Z07 ?_
  refine Z0P results5 rfl rfl ?_
  refine ⟨_, rfl, ?_⟩
  refine ⟨_, _, rfl, .inl ⟨fun h => by have := h.1; omega, rfl, rfl, H0.grows⟩⟩
 refine Z0a (Z02 ?_)
 refine Zk [0] ?_
 refine Z03 (Z00 (Zm ?_))
 refine Z3L rfl rfl underlying22 rfl (by first | exact H0.iarg hv | assumption) ?_
 refine Z1A (m := vs.length) (c := vs.length) H0 rfl rfl underlying53 ti47 rfl rfl rfl ZO ZO ZO ZO ZO (fun v3_2 w1 H1 => ?_)
 have hv32 := Z4x (H1.ok mem0)
 refine Z16 rfl rfl pl63 ta63 (.one rfl rfl ZR (.succ (.succ (.succ (.succ (.succ (.succ (.succ (.succ (.succ (.succ (.succ (.succ (.succ (.succ (.succ (.succ (.succ (.succ (.succ (.succ (.succ (.succ (.succ (.succ (.succ (.succ (.succ (.succ (.succ (.succ (.succ (.succ (.succ (.succ (.succ (.succ (.succ (.succ (.succ (.succ (.succ (.succ (.succ (.succ (.succ (.succ (.succ (.succ (.succ (.succ (.succ (.succ (.succ (.succ (.succ (.succ (.succ (.succ (.succ (.succ (.succ (.succ (.succ (.succ (.succ (.succ (.succ (.succ (.succ (.succ (.succ (.succ (.succ (.succ (.succ (.succ (.succ (.succ (.succ (.succ (.succ (.succ (.succ (.succ (.succ (.succ (.succ (.succ (.succ (.succ (.succ (.succ (.succ (.succ (.succ (.succ (.succ (.succ (.succ (.succ (.succ (.succ (.succ (.succ (.succ (.succ (.succ (.succ (.succ (.succ (.succ (.succ (.succ (.succ (.succ (.succ (.succ (.succ (.succ (.succ (.succ (.succ (.succ (.succ (.succ .zero))))))))))))))))))))))))))))))))))))))))))))))))))))))))))))))))))))))))))))))))))))))))))))))))))))))))))))))))))))))))))))) .nil) ?_
 refine l_box H1 rfl rfl rfl (fun b3_4 w2 H2 => ?_)
 refine Zg (Z01 (Z02 ?_))
 refine Zk [0, 4] ?_
 refine Z03 (Z03 (Z00 (Zm ?_)))
 refine Z3L rfl rfl underlying22 rfl (by first | exact H2.ibl mem0 | exact H2.io mem1 | exact H2.iarg hv | assumption) ?_
 refine Zm (Z01 (Z02 ?_))
 refine Zk [4, 20, 21, 22] ?_
 refine Z0d ?_
 refine Z0z (ι := Nat × Gm) (fun (z0 : Nat × Gm) => match z0 with | ⟨i, X⟩ => vs.length - i) (fun (z0 : Nat × Gm) (w' : World) => match z0 with | ⟨i, X⟩ => St w w.heap.size Z0J (nwR b3_4 X vs.length) w' ∧ i ≤ vs.length ∧ NwOk ls i X ∧ ∀ l ∈ ls.take i, okR l) (fun (z0 : Nat × Gm) => match z0 with | ⟨i, X⟩ => [(22, .int .i64 (i : Int))]) [4, 20, 21] (0, X0 v3_2) ?_ (.cons rfl (.cons rfl (.cons rfl .nil))) ?_ ?_
 ·exact ⟨St.perm (List.perm_append_comm (l₁ := [_]) (l₂ := [_, _, _])) (nil_rows _ (rest0 (vr := v3_2) (b := b3_4)) (St.frontL (l := [_]) (St.nilk H2 71 3))), ZO, ⟨rfl, rfl, rfl, rfl, rfl⟩, by simp⟩
 ·exact (.cons rfl ZN .nil)
 rintro ⟨i, X⟩ w3 ⟨H3, hi, hN, hok⟩
 show RunC P _ _ _ (_ :: _) _
 refine Z03 (Z00 ?_)
 refine Zl ?_
 refine Z01 (Z02 (Z03 ?_))
 (first | refine Z0c rfl ?_ ?_ | refine Z08 rfl ?_ ?_) <;> intro hc1
 ·refine Z0a (Z02 ?_)
  refine Zk [4, 20, 21, 22] ?_
  refine Z03 (Z0d (Z03 (Z00 ?_)))
  have hi1 : i < ls.length := by omega
  obtain ⟨x, hvj⟩ : ∃ x, vs[i]? = some x := ⟨_, List.getElem?_eq_getElem ZO⟩
  obtain ⟨l, hlj⟩ : ∃ l, ls[i]? = some l := ⟨_, List.getElem?_eq_getElem hi1⟩
  have hx := hvs i x l hvj hlj
  have hlm := List.mem_of_getElem? hlj
  obtain ⟨hRg, hlb⟩ := hrg l hlm
  refine Zm ?_
  refine Z4k rfl rfl rfl rfl underlying22 tz34 underlying34 rfl rfl rfl (by first | exact H3.ibl mem0 | exact H3.ik ZA mem1 | exact H3.io mem2 | exact H3.iarg hv | assumption) ZI hvj ?_ rfl
  refine Zg (Zg (Z01 (Z02 ?_)))
  refine Zk [4, 5, 6, 20, 21, 22] ?_
  refine Z03 (Z03 (Z00 (Zm ?_)))
  refine Z0u rfl rfl underlying34 rfl (H3.iarg hx) ?_
  refine Zw ?_
  refine Z01 (Z02 ?_)
  refine Zk [4, 5, 6, 20, 21, 22, 29] ?_
  (first | refine Z0c rfl ?_ ?_ | refine Z08 rfl ?_ ?_) <;> intro hc2
  ·refine Z03 (Z00 (Zg (Zg (Z01 (Z02 ?_)))))
   refine Zk [2, 3] ?_
   refine Z0i ?_
   refine Z07 ?_
   refine Z0k ?_
   refine Z07 ?_
   refine Z07 ?_
   refine Z0k ?_
   refine Z07 ?_
   refine Z0P results5 rfl rfl ?_
   refine ⟨_, rfl, ?_⟩
   have H7 := St.del .head (St.del (.tail .head) (St.del (.tail (.tail .head)) (St.del (.tail (.tail (.tail .head))) H3)))
   refine ⟨_, _, rfl, .inl ⟨fun h => by have := (h.2 l hlm).1; omega, rfl, rfl, H7.grows⟩⟩
  refine Z0a (Z02 ?_)
  refine Zk [4, 5, 6, 20, 21, 22] ?_
  refine Z1q (ι := Value × Value) (fun (z0 : Value × Value) (w' : World) => match z0 with | ⟨sv, pv⟩ => St w w.heap.size Z0J ([As.ri 3 .i64 sv (List.replicate l.length 0), As.ri 3 .i64 pv (List.replicate l.length 0)] ++ nwR b3_4 X vs.length) w' ∧ True) (fun (z0 : Value × Value) => match z0 with | ⟨sv, pv⟩ => [(7, sv), (8, pv)]) [4, 5, 6, 20, 21, 22] (.cons rfl (.cons rfl (.cons rfl (.cons rfl (.cons rfl (.cons rfl .nil)))))) ?_ ?_
  ·have H8 := H3.drewn
   refine Z1a (n := 8) [Zz,Zz,Zz,Zz,Zz,Zz,Zz,Zz] (fun wS => True) ZK rfl rfl ?_
   apply Zu (L' := [Zy,Zz,Zz,Zz,Zz,Zz,Zz,Zz]) 0 (trivial)
   ·intro wS sS
    refine Zm (Z01 ?_)
    exact Z04 rfl
   apply Zu (L' := [Zy,Zz,Zz,Zy,Zz,Zz,Zz,Zz]) 3 (trivial)
   ·intro wS sS
    refine Zm (Z01 ?_)
    exact Z04 rfl
   refine Z2B (L' := [Zy,Zy,Zz,Zy,Zz,Zz,Zz,Zz]) (L'' := [Zy,Zz,Zz,Zy,Zy,Zz,Zz,Zz]) 1 4 ZK rfl rfl rfl rfl ?_ ?_
   ·refine Z0u rfl rfl underlying34 rfl (H8.iarg hx) ?_
    refine Z01 ?_
    refine Z0n (trivial) ?_
    refine Z2B (L' := [Zy,Zy,Zy,Zy,Zz,Zz,Zz,Zz]) (L'' := [Zy,Zy,Zz,Zy,Zy,Zz,Zz,Zz]) 2 4 ZK rfl rfl rfl rfl ?_ ?_
    ·refine Z1A (m := l.length) (c := l.length) H8 rfl rfl underlying34 ti3 rfl rfl rfl ZO ZO ZO ZO ZO (fun v9_2 w9 H9 => ?_)
     refine Z01 ?_
     refine Z0n (trivial) ?_
     apply Zu (L' := [Zy,Zy,Zy,Zy,Zz,Zz,Zy,Zz]) 6 (trivial)
     ·intro wS sS
      refine Zg (Z01 ?_)
      exact Z04 rfl
     refine Z0v (L' := [Zy,Zy,Zy,Zy,Zy,Zz,Zy,Zz]) 4 ZK rfl rfl ?_
     refine Z0u rfl rfl underlying34 rfl (H9.iarg hx) ?_
     refine Z01 ?_
     refine Z0n (trivial) ?_
     refine Z0v (L' := [Zy,Zy,Zy,Zy,Zy,Zy,Zy,Zz]) 5 ZK rfl rfl ?_
     refine Z1A (m := l.length) (c := l.length) H9 rfl rfl underlying34 ti3 rfl rfl rfl ZO ZO ZO ZO ZO (fun v9_5 w10 H10 => ?_)
     refine Z01 ?_
     refine Z0n (trivial) ?_
     apply Zu (L' := [Zy,Zy,Zy,Zy,Zy,Zy,Zy,Zy]) 7 (trivial)
     ·intro wS sS
      refine Zg (Z01 ?_)
      exact Z04 rfl
     refine Z0B ZK ?_
     have H11 := St.frontL (l := [_, _, _, _, _]) H10
     simp only [Zca, Zna] at H11
     have H12 := St.frontL (l := [_, _, _, _, _]) H11
     simp only [Zca, Zna] at H12
     have H13 := St.frontL (l := [_, _, _, _, _]) H12
     simp only [Zca, Zna] at H13
     have H14 := St.frontL (l := [_, _, _, _, _]) H13
     simp only [Zca, Zna] at H14
     have H15 := St.frontL (l := [_, _, _, _]) H14
     simp only [Zca, Zna] at H15
     have H16 := St.frontL (l := [_, _, _, _, _]) H15
     simp only [Zca, Zna] at H16
     refine Z0w (v9_2, v9_5) ?_ (.cons rfl (.cons rfl (.cons rfl (.cons rfl (.cons rfl (.cons rfl .nil)))))) ?_
     ·exact ⟨H16.cast (by rw [Z2G, Z2G]; rfl), trivial⟩
     exact (.cons rfl ZN (.cons rfl ZN .nil))
    refine Z0u rfl rfl underlying34 rfl (H8.iarg hx) ?_
    refine Z01 ?_
    refine Z0n (trivial) ?_
    refine Z2B (L' := [Zy,Zy,Zy,Zy,Zy,Zz,Zz,Zz]) (L'' := [Zy,Zy,Zz,Zy,Zy,Zy,Zz,Zz]) 2 5 ZK rfl rfl rfl rfl ?_ ?_
    ·refine Z1A (m := l.length) (c := l.length) H8 rfl rfl underlying34 ti3 rfl rfl rfl ZO ZO ZO ZO ZO (fun v9_2 w17 H17 => ?_)
     refine Z01 ?_
     refine Z0n (trivial) ?_
     apply Zu (L' := [Zy,Zy,Zy,Zy,Zy,Zz,Zy,Zz]) 6 (trivial)
     ·intro wS sS
      refine Zg (Z01 ?_)
      exact Z04 rfl
     refine Z0v (L' := [Zy,Zy,Zy,Zy,Zy,Zy,Zy,Zz]) 5 ZK rfl rfl ?_
     refine Z1A (m := l.length) (c := l.length) H17 rfl rfl underlying34 ti3 rfl rfl rfl ZO ZO ZO ZO ZO (fun v9_5 w18 H18 => ?_)
     refine Z01 ?_
     refine Z0n (trivial) ?_
     apply Zu (L' := [Zy,Zy,Zy,Zy,Zy,Zy,Zy,Zy]) 7 (trivial)
     ·intro wS sS
      refine Zg (Z01 ?_)
      exact Z04 rfl
     refine Z0B ZK ?_
     have H19 := St.frontL (l := [_, _, _, _, _]) H18
     simp only [Zca, Zna] at H19
     have H20 := St.frontL (l := [_, _, _, _, _]) H19
     simp only [Zca, Zna] at H20
     have H21 := St.frontL (l := [_, _, _, _, _]) H20
     simp only [Zca, Zna] at H21
     have H22 := St.frontL (l := [_, _, _, _, _]) H21
     simp only [Zca, Zna] at H22
     have H23 := St.frontL (l := [_, _, _, _]) H22
     simp only [Zca, Zna] at H23
     have H24 := St.frontL (l := [_, _, _, _, _]) H23
     simp only [Zca, Zna] at H24
     refine Z0w (v9_2, v9_5) ?_ (.cons rfl (.cons rfl (.cons rfl (.cons rfl (.cons rfl (.cons rfl .nil)))))) ?_
     ·exact ⟨H24.cast (by rw [Z2G, Z2G]; rfl), trivial⟩
     exact (.cons rfl ZN (.cons rfl ZN .nil))
    refine Z1A (m := l.length) (c := l.length) H8 rfl rfl underlying34 ti3 rfl rfl rfl ZO ZO ZO ZO ZO (fun v9_5 w25 H25 => ?_)
    refine Z01 ?_
    refine Z0n (trivial) ?_
    refine Z0v (L' := [Zy,Zy,Zy,Zy,Zy,Zy,Zz,Zz]) 2 ZK rfl rfl ?_
    refine Z1A (m := l.length) (c := l.length) H25 rfl rfl underlying34 ti3 rfl rfl rfl ZO ZO ZO ZO ZO (fun v9_2 w26 H26 => ?_)
    refine Z01 ?_
    refine Z0n (trivial) ?_
    apply Zu (L' := [Zy,Zy,Zy,Zy,Zy,Zy,Zy,Zz]) 6 (trivial)
    ·intro wS sS
     refine Zg (Z01 ?_)
     exact Z04 rfl
    apply Zu (L' := [Zy,Zy,Zy,Zy,Zy,Zy,Zy,Zy]) 7 (trivial)
    ·intro wS sS
     refine Zg (Z01 ?_)
     exact Z04 rfl
    refine Z0B ZK ?_
    have H27 := St.frontL (l := [_, _, _, _, _]) H26
    simp only [Zca, Zna] at H27
    have H28 := St.frontL (l := [_, _, _, _, _]) H27
    simp only [Zca, Zna] at H28
    have H29 := St.frontL (l := [_, _, _, _, _]) H28
    simp only [Zca, Zna] at H29
    have H30 := St.frontL (l := [_, _, _, _, _]) H29
    simp only [Zca, Zna] at H30
    have H31 := St.frontL (l := [_, _, _, _, _]) H30
    simp only [Zca, Zna] at H31
    have H32 := St.frontL (l := [_, _, _, _, _]) H31
    simp only [Zca, Zna] at H32
    refine Z0w (v9_2, v9_5) ?_ (.cons rfl (.cons rfl (.cons rfl (.cons rfl (.cons rfl (.cons rfl .nil)))))) ?_
    ·exact ⟨H32.cast (by rw [Z2G, Z2G]; rfl), trivial⟩
    exact (.cons rfl ZN (.cons rfl ZN .nil))
   refine Z0u rfl rfl underlying34 rfl (H8.iarg hx) ?_
   refine Z01 ?_
   refine Z0n (trivial) ?_
   refine Z2B (L' := [Zy,Zy,Zz,Zy,Zy,Zz,Zz,Zz]) (L'' := [Zy,Zz,Zz,Zy,Zy,Zy,Zz,Zz]) 1 5 ZK rfl rfl rfl rfl ?_ ?_
   ·refine Z0u rfl rfl underlying34 rfl (H8.iarg hx) ?_
    refine Z01 ?_
    refine Z0n (trivial) ?_
    refine Z2B (L' := [Zy,Zy,Zy,Zy,Zy,Zz,Zz,Zz]) (L'' := [Zy,Zy,Zz,Zy,Zy,Zy,Zz,Zz]) 2 5 ZK rfl rfl rfl rfl ?_ ?_
    ·refine Z1A (m := l.length) (c := l.length) H8 rfl rfl underlying34 ti3 rfl rfl rfl ZO ZO ZO ZO ZO (fun v9_2 w33 H33 => ?_)
     refine Z01 ?_
     refine Z0n (trivial) ?_
     apply Zu (L' := [Zy,Zy,Zy,Zy,Zy,Zz,Zy,Zz]) 6 (trivial)
     ·intro wS sS
      refine Zg (Z01 ?_)
      exact Z04 rfl
     refine Z0v (L' := [Zy,Zy,Zy,Zy,Zy,Zy,Zy,Zz]) 5 ZK rfl rfl ?_
     refine Z1A (m := l.length) (c := l.length) H33 rfl rfl underlying34 ti3 rfl rfl rfl ZO ZO ZO ZO ZO (fun v9_5 w34 H34 => ?_)
     refine Z01 ?_
     refine Z0n (trivial) ?_
     apply Zu (L' := [Zy,Zy,Zy,Zy,Zy,Zy,Zy,Zy]) 7 (trivial)
     ·intro wS sS
      refine Zg (Z01 ?_)
      exact Z04 rfl
     refine Z0B ZK ?_
     have H35 := St.frontL (l := [_, _, _, _, _]) H34
     simp only [Zca, Zna] at H35
     have H36 := St.frontL (l := [_, _, _, _, _]) H35
     simp only [Zca, Zna] at H36
     have H37 := St.frontL (l := [_, _, _, _, _]) H36
     simp only [Zca, Zna] at H37
     have H38 := St.frontL (l := [_, _, _, _, _]) H37
     simp only [Zca, Zna] at H38
     have H39 := St.frontL (l := [_, _, _, _]) H38
     simp only [Zca, Zna] at H39
     have H40 := St.frontL (l := [_, _, _, _, _]) H39
     simp only [Zca, Zna] at H40
     refine Z0w (v9_2, v9_5) ?_ (.cons rfl (.cons rfl (.cons rfl (.cons rfl (.cons rfl (.cons rfl .nil)))))) ?_
     ·exact ⟨H40.cast (by rw [Z2G, Z2G]; rfl), trivial⟩
     exact (.cons rfl ZN (.cons rfl ZN .nil))
    refine Z1A (m := l.length) (c := l.length) H8 rfl rfl underlying34 ti3 rfl rfl rfl ZO ZO ZO ZO ZO (fun v9_5 w41 H41 => ?_)
    refine Z01 ?_
    refine Z0n (trivial) ?_
    refine Z0v (L' := [Zy,Zy,Zy,Zy,Zy,Zy,Zz,Zz]) 2 ZK rfl rfl ?_
    refine Z1A (m := l.length) (c := l.length) H41 rfl rfl underlying34 ti3 rfl rfl rfl ZO ZO ZO ZO ZO (fun v9_2 w42 H42 => ?_)
    refine Z01 ?_
    refine Z0n (trivial) ?_
    apply Zu (L' := [Zy,Zy,Zy,Zy,Zy,Zy,Zy,Zz]) 6 (trivial)
    ·intro wS sS
     refine Zg (Z01 ?_)
     exact Z04 rfl
    apply Zu (L' := [Zy,Zy,Zy,Zy,Zy,Zy,Zy,Zy]) 7 (trivial)
    ·intro wS sS
     refine Zg (Z01 ?_)
     exact Z04 rfl
    refine Z0B ZK ?_
    have H43 := St.frontL (l := [_, _, _, _, _]) H42
    simp only [Zca, Zna] at H43
    have H44 := St.frontL (l := [_, _, _, _, _]) H43
    simp only [Zca, Zna] at H44
    have H45 := St.frontL (l := [_, _, _, _, _]) H44
    simp only [Zca, Zna] at H45
    have H46 := St.frontL (l := [_, _, _, _, _]) H45
    simp only [Zca, Zna] at H46
    have H47 := St.frontL (l := [_, _, _, _, _]) H46
    simp only [Zca, Zna] at H47
    have H48 := St.frontL (l := [_, _, _, _, _]) H47
    simp only [Zca, Zna] at H48
    refine Z0w (v9_2, v9_5) ?_ (.cons rfl (.cons rfl (.cons rfl (.cons rfl (.cons rfl (.cons rfl .nil)))))) ?_
    ·exact ⟨H48.cast (by rw [Z2G, Z2G]; rfl), trivial⟩
    exact (.cons rfl ZN (.cons rfl ZN .nil))
   refine Z1A (m := l.length) (c := l.length) H8 rfl rfl underlying34 ti3 rfl rfl rfl ZO ZO ZO ZO ZO (fun v9_5 w49 H49 => ?_)
   refine Z01 ?_
   refine Z0n (trivial) ?_
   refine Z0v (L' := [Zy,Zy,Zz,Zy,Zy,Zy,Zz,Zz]) 1 ZK rfl rfl ?_
   refine Z0u rfl rfl underlying34 rfl (H49.iarg hx) ?_
   refine Z01 ?_
   refine Z0n (trivial) ?_
   refine Z0v (L' := [Zy,Zy,Zy,Zy,Zy,Zy,Zz,Zz]) 2 ZK rfl rfl ?_
   refine Z1A (m := l.length) (c := l.length) H49 rfl rfl underlying34 ti3 rfl rfl rfl ZO ZO ZO ZO ZO (fun v9_2 w50 H50 => ?_)
   refine Z01 ?_
   refine Z0n (trivial) ?_
   apply Zu (L' := [Zy,Zy,Zy,Zy,Zy,Zy,Zy,Zz]) 6 (trivial)
   ·intro wS sS
    refine Zg (Z01 ?_)
    exact Z04 rfl
   apply Zu (L' := [Zy,Zy,Zy,Zy,Zy,Zy,Zy,Zy]) 7 (trivial)
   ·intro wS sS
    refine Zg (Z01 ?_)
    exact Z04 rfl
   refine Z0B ZK ?_
   have H51 := St.frontL (l := [_, _, _, _, _]) H50
   simp only [Zca, Zna] at H51
   have H52 := St.frontL (l := [_, _, _, _, _]) H51
   simp only [Zca, Zna] at H52
   have H53 := St.frontL (l := [_, _, _, _, _]) H52
   simp only [Zca, Zna] at H53
   have H54 := St.frontL (l := [_, _, _, _, _]) H53
   simp only [Zca, Zna] at H54
   have H55 := St.frontL (l := [_, _, _, _, _]) H54
   simp only [Zca, Zna] at H55
   have H56 := St.frontL (l := [_, _, _, _, _]) H55
   simp only [Zca, Zna] at H56
   refine Z0w (v9_2, v9_5) ?_ (.cons rfl (.cons rfl (.cons rfl (.cons rfl (.cons rfl (.cons rfl .nil)))))) ?_
   ·exact ⟨H56.cast (by rw [Z2G, Z2G]; rfl), trivial⟩
   exact (.cons rfl ZN (.cons rfl ZN .nil))
  rintro ⟨sv, pv⟩ w57 ⟨H57, _⟩
  show RunC P _ _ _ (_ :: _) _
  refine Z03 (Z03 (Z00 (Zm ?_)))
  refine Z0u rfl rfl underlying34 rfl (H57.iarg hx) ?_
  refine Zm (Z01 (Z02 ?_))
  refine Zk [4, 5, 7, 8, 20, 21, 22, 36, 37, 38] ?_
  refine Z0d ?_
  refine Z0z (ι := Nat) (fun (k : Nat) => l.length - k) (fun (k : Nat) (w' : World) => St w w.heap.size Z0J ([As.ri 3 .i64 sv (Z1h (l.take k) ++ List.replicate (l.length - k) 0), As.ri 3 .i64 pv (Z2a (l.take k) ++ List.replicate (l.length - k) 0)] ++ nwR b3_4 X vs.length) w' ∧ k ≤ l.length ∧ ∀ q ∈ l.take k, -342 ≤ q ∧ q ≤ 308) (fun (k : Nat) => [(38, .int .i64 (k : Int))]) [4, 5, 7, 8, 20, 21, 22, 36, 37] (0) ?_ (.cons rfl (.cons rfl (.cons rfl (.cons rfl (.cons rfl (.cons rfl (.cons rfl (.cons rfl (.cons rfl .nil))))))))) ?_ ?_
  ·exact ⟨H57, ZO, by simp⟩
  ·exact (.cons rfl ZN .nil)
  rintro k w58 ⟨H58, hk, hqs⟩
  show RunC P _ _ _ (_ :: _) _
  refine Z03 (Z00 ?_)
  refine Zl ?_
  refine Z01 (Z02 (Z03 ?_))
  (first | refine Z0c rfl ?_ ?_ | refine Z08 rfl ?_ ?_) <;> intro hc3
  ·refine Z0a (Z02 ?_)
   refine Zk [4, 5, 7, 8, 20, 21, 22, 36, 37, 38] ?_
   refine Z03 (Z0d (Z03 (Z00 (Zm ?_))))
   refine Z0T (j := k) rfl rfl rfl rfl underlying34 tz3 underlying3 rfl rfl (H58.iarg hx) hRg rfl rfl ZI (fun hb12 => ?_)
   refine Zg (Zg (Z01 (Z02 ?_)))
   refine Zk [4, 5, 7, 8, 9, 10, 20, 21, 22, 36, 37, 38] ?_
   refine Z03 (Z00 (Zg (Z01 (Z02 ?_))))
   refine Zk [4, 5, 7, 8, 9, 10, 20, 21, 22, 36, 37, 38] ?_
   refine Z03 (Z00 ?_)
   have hq0 := hRg.get (j := k) ZO
   have hkl : k < l.length := by omega
   have hls1 : (Z1h (l.take k) ++ List.replicate (l.length - k) 0).length = l.length := by simp [Z1h]; omega
   have hsl0 : (Z1h (l.take k)).length = k := by simp [Z1h]; omega
   have hpl0 : (Z2a (l.take k)).length = k := by simp [Z2a]; omega
   have hls2 : (Z2a (l.take k) ++ List.replicate (l.length - k) 0).length = l.length := by simp [Z2a]; omega
   refine Zm (Zm (Zm (Zm (Zm ?_))))
   refine Zp func27 (whereP (l.getD k 0) hq0 _) ?_
   refine Zm ?_
   refine Zx (Zx (Zx ?_))
   refine Z2o (j := k) rfl rfl underlying34 tz3 rfl rfl (by first | exact H58.io mem0 | exact H58.io mem1 | exact H58.ibl mem2 | exact H58.ik ZA mem3 | exact H58.io mem4 | exact H58.iarg hv | assumption) ZO ZI (fun A14_10 c14_10 hA14_10 => ?_)
   refine Z1w H58 .head hA14_10 rfl tz3 rfl rfl ZI (fun w59 H59 => ?_)
   refine Z2o (j := k) rfl rfl underlying34 tz3 rfl rfl (by first | exact H59.io mem0 | exact H59.io mem1 | exact H59.ibl mem2 | exact H59.ik ZA mem3 | exact H59.io mem4 | exact H59.iarg hv | assumption) ZO ZI (fun A14_12 c14_12 hA14_12 => ?_)
   refine Z1w H59 (.tail .head) hA14_12 rfl tz3 rfl rfl ZI (fun w60 H60 => ?_)
   refine Zg (Z01 (Z02 ?_))
   refine Zk [4, 5, 7, 8, 11, 20, 21, 22, 36, 37, 38] ?_
   refine Z03 (Z00 (Zm ?_))
   refine Zo ?_
   refine Z01 (Z02 ?_)
   refine Zk [4, 5, 7, 8, 20, 21, 22, 36, 37, 38, 56] ?_
   (first | refine Z0c rfl ?_ ?_ | refine Z08 rfl ?_ ?_) <;> intro hc4
   ·refine Z03 (Z00 (Zg (Zg (Z01 (Z02 ?_)))))
    refine Zk [2, 3] ?_
    refine Z0i ?_
    refine Z0k ?_
    refine Z07 ?_
    refine Z07 ?_
    refine Z0k ?_
    refine Z07 ?_
    refine Z0k ?_
    refine Z07 ?_
    refine Z07 ?_
    refine Z0k ?_
    refine Z07 ?_
    refine Z0P results5 rfl rfl ?_
    refine ⟨_, rfl, ?_⟩
    have H66 := St.del .head (St.del (.tail .head) (St.del (.tail (.tail .head)) (St.del (.tail (.tail (.tail .head))) (St.del (.tail (.tail (.tail (.tail .head)))) (St.del (.tail (.tail (.tail (.tail (.tail .head))))) H60)))))
    refine ⟨_, _, rfl, .inl ⟨fun h => by have := (h.2 l hlm).2 _ (show l.getD k 0 ∈ l by simp [List.getD, hkl]); rw [← Z3N] at this; exact hc4 this, rfl, rfl, H66.grows⟩⟩
   refine Z0a ?_
   refine Z0F ?_
   refine Z02 ?_
   refine Zk [4, 5, 7, 8, 20, 21, 22, 36, 37, 38] ?_
   refine Z00 ?_
   refine Z0y rfl rfl rfl rfl (Z0l ZO) ?_
   refine Zm (Z01 ?_)
   rw [segs_set hkl, plcs_set hkl] at H60
   refine Z0p (i := (k)) (k + 1) ?_ ?_ (.cons rfl (.cons rfl (.cons rfl (.cons rfl (.cons rfl (.cons rfl (.cons rfl (.cons rfl (.cons rfl .nil))))))))) ?_
   ·first | omega | (simp; omega)
   ·exact ⟨H60, ZO, fun q hq => by
     rw [List.take_add_one, List.getElem?_eq_getElem hkl] at hq
     rcases List.mem_append.1 hq with h | h
     ·exact hqs q h
     have e : q = l.getD k 0 := by simpa [List.getD, hkl] using h
     rw [e, ← Z3N]
     omega⟩
   exact (.cons rfl ZN .nil)
  refine Z0H ?_
  refine Z06 ?_
  refine Z06 ?_
  refine Z0h ?_
  refine Z02 ?_
  refine Zk [4, 5, 7, 8, 20, 21, 22] ?_
  have H67 := H58.drewn
  have hkn : k = l.length := by omega
  rw [hkn, List.take_length, Nat.sub_self, List.replicate_zero, List.append_nil, List.append_nil] at H67
  refine Z1a (n := 10) [Zz,Zz,Zz,Zz,Zz,Zz,Zz,Zz,Zz,Zz] (fun wS => True) ZK rfl rfl ?_
  apply Zu (L' := [Zy,Zz,Zz,Zz,Zz,Zz,Zz,Zz,Zz,Zz]) 0 (trivial)
  ·intro wS sS
   refine Zm (Z01 ?_)
   exact Z04 rfl
  refine Z0N (L' := [Zy,Zy,Zz,Zz,Zz,Zz,Zz,Zz,Zz,Zz]) 1 rfl ZK ZK ZK rfl rfl rfl (trivial) rfl ?_
  apply Zu (L' := [Zy,Zy,Zy,Zz,Zz,Zz,Zz,Zz,Zz,Zz]) 2 (trivial)
  ·intro wS sS
   refine Z09 Z3K rfl rfl rfl (Z01 ?_)
   exact Z04 rfl
  apply Zu (L' := [Zy,Zy,Zy,Zy,Zz,Zz,Zz,Zz,Zz,Zz]) 3 (trivial)
  ·intro wS sS
   refine Zm (Z01 ?_)
   exact Z04 rfl
  apply Zu (L' := [Zy,Zy,Zy,Zy,Zy,Zz,Zz,Zz,Zz,Zz]) 4 (trivial)
  ·intro wS sS
   refine Zm (Z01 ?_)
   exact Z04 rfl
  apply Zu (L' := [Zy,Zy,Zy,Zy,Zy,Zy,Zz,Zz,Zz,Zz]) 5 (trivial)
  ·intro wS sS
   refine Zm (Z01 ?_)
   exact Z04 rfl
  apply Zu (L' := [Zy,Zy,Zy,Zy,Zy,Zy,Zy,Zz,Zz,Zz]) 6 (trivial)
  ·intro wS sS
   refine Zm (Z01 ?_)
   exact Z04 rfl
  refine Z0v (L' := [Zy,Zy,Zy,Zy,Zy,Zy,Zy,Zy,Zz,Zz]) 7 ZK rfl rfl ?_
  refine Zc func29 (handG b3_4 i sv pv l w58.drew (H67.io mem0) (Z4x (H67.ok mem1))) ?_
  rintro _ w68 ⟨bw, bg, bi, bs, bp, wb, rfl, hG⟩
  have H68 := hG _ _ _ _ H67
  simp only [Zca, Zna] at H68
  refine Z01 ?_
  refine Z0n (trivial) ?_
  refine Z0v (L' := [Zy,Zy,Zy,Zy,Zy,Zy,Zy,Zy,Zy,Zz]) 8 ZK rfl rfl ?_
  refine l_lit3 H68 rfl rfl underlying54 ti71 rfl rfl rfl (fun lb w69 H69 => ?_)
  refine Z01 ?_
  refine Z0n (trivial) ?_
  refine Z0v (L' := [Zy,Zy,Zy,Zy,Zy,Zy,Zy,Zy,Zy,Zy]) 9 ZK rfl rfl ?_
  have H70 := St.frontL (l := [_, _, _, _, _, _, _, _, _, _]) H69
  simp only [Zca, Zna] at H70
  have H71 := St.frontL (l := [_, _, _, _, _, _, _, _, _, _]) H70
  simp only [Zca, Zna] at H71
  refine Zc func28 (AddD b3_4 lb X (X.hs.map Z0V) (by simp [hN.len]; omega) (Z0V (newM l bw bg bi bs bp wb sv pv)) rfl (by simp [Z0V, Value.oneCell']) w69 (St.rows (τ := addW b3_4 X (X.hs.map Z0V)) H71) (St.restKeeps (τ := addW b3_4 X (X.hs.map Z0V)) H71 (.head _))) ?_
  rintro _ w72 ⟨v2, rfl, hX2⟩
  have H72 := hX2 _ _ _ _ H71
  simp only [addW, List.cons_append, List.nil_append] at H72
  refine Z01 ?_
  refine Z0n (trivial) ?_
  refine Z0B ZK ?_
  refine Z0F ?_
  refine Z02 ?_
  refine Zk [4, 20, 21, 22] ?_
  refine Z00 ?_
  have H73 := St.frontL (l := [_, _]) H72
  simp only [Zca, Zna] at H73
  have H74 := St.frontL (l := [_, _, _, _, _, _, _, _, _, _, _, _]) H73
  simp only [Zca, Zna] at H74
  have H75 := St.frontL (l := [_, _, _, _, _, _, _, _, _, _, _]) H74
  simp only [Zca, Zna] at H75
  have H76 := St.frontL (l := [_, _, _, _, _, _, _, _, _, _, _]) H75
  simp only [Zca, Zna] at H76
  have H77 := St.frontL (l := [_, _, _, _, _, _, _, _, _, _, _]) H76
  simp only [Zca, Zna] at H77
  have H78 := St.frontL (l := [_, _, _, _, _, _, _, _, _, _, _]) H77
  simp only [Zca, Zna] at H78
  have H79 := St.frontL (l := [_, _, _, _, _, _, _, _, _, _, _]) H78
  simp only [Zca, Zna] at H79
  have H80 := St.frontL (l := [_, _, _, _, _, _, _, _, _, _, _]) H79
  simp only [Zca, Zna] at H80
  have H81 := St.frontL (l := [_, _, _, _, _, _, _, _, _, _, _]) H80
  simp only [Zca, Zna] at H81
  have H82 := St.frontL (l := [_, _, _, _, _, _, _, _, _, _, _]) H81
  simp only [Zca, Zna] at H82
  have H83 := St.frontL (l := [_, _, _, _, _, _, _, _, _, _, _, _]) H82
  simp only [Zca, Zna] at H83
  have H84 := St.frontL (l := [_, _, _, _, _, _, _, _, _, _, _, _]) H83
  simp only [Zca, Zna] at H84
  have H85 := St.frontL (l := [_, _, _, _, _, _, _, _, _, _, _, _]) H84
  simp only [Zca, Zna] at H85
  refine Z0y rfl rfl rfl rfl (Z0l ZO) ?_
  refine Zm (Z01 ?_)
  have H86 := St.del (.tail (.tail (.tail (.tail (.tail (.tail (.tail (.tail (.tail (.tail (.tail (.tail .head)))))))))))) H85
  refine Z0p (i := (i, X)) (i + 1, addX X v2 (newM l bw bg bi bs bp wb sv pv)) ?_ ?_ (.cons rfl (.cons rfl (.cons rfl .nil))) ?_
  ·first | omega | (simp; omega)
  ·refine ⟨?_, ZO, hN.snoc hlj, fun l2 hl2 => ?_⟩
   ·have hnx := H86
    have hz301 := St.nilk hnx 85 2
    have hz302 := St.nilk hz301 85 2
    have hz303 := St.frontL (l := [_, _, _, _, _, _, _, _, _, _, _, _, _]) hz302
    simp only [Zca, Zna] at hz303
    have hz304 := St.frontL (l := [_, _]) hz303
    simp only [Zca, Zna] at hz304
    have hz305 := St.frontL (l := [_, _]) hz304
    simp only [Zca, Zna] at hz305
    have hz306 := St.frontL (l := [_, _, _, _, _, _, _, _, _, _, _, _, _]) hz305
    simp only [Zca, Zna] at hz306
    have hz307 := St.frontL (l := [_, _, _, _, _, _, _, _, _, _, _, _, _]) hz306
    simp only [Zca, Zna] at hz307
    have hz308 := St.frontL (l := [_, _, _, _, _, _, _, _, _, _, _, _, _]) hz307
    simp only [Zca, Zna] at hz308
    have hz309 := St.frontL (l := [_, _, _, _, _, _, _, _, _, _, _, _, _]) hz308
    simp only [Zca, Zna] at hz309
    have hz310 := St.frontL (l := [_, _, _, _, _, _, _, _, _, _, _, _, _]) hz309
    simp only [Zca, Zna] at hz310
    have hz311 := St.frontL (l := [_, _, _, _, _, _, _, _, _, _, _, _, _]) hz310
    simp only [Zca, Zna] at hz311
    have hz312 := St.frontL (l := [_, _, _, _, _, _, _, _, _, _, _, _, _]) hz311
    simp only [Zca, Zna] at hz312
    have hz313 := St.frontL (l := [_, _, _, _, _, _, _, _, _, _, _, _, _]) hz312
    simp only [Zca, Zna] at hz313
    have hpm := rest_snoc (b := b3_4) (X := X) (v := v2) (m := (newM l bw bg bi bs bp wb sv pv))
    rw [hN.len] at hpm
    have hzx := Z29 (l := [_, _, _, _, _, _, _, _, _, _]) (τ' := Z1t b3_4 X) (τ := Z1t b3_4 (addX X v2 (newM l bw bg bi bs bp wb sv pv))) hpm hz313
    exact (St.perm (List.perm_append_comm (l₁ := [_]) (l₂ := [_, _, _])) hzx).cast (by show [_, As.rk _ 3 _ (X.hs.map Z0V ++ [Z0V _]), _, _] = [_, As.rk _ 3 _ ((X.hs ++ [_]).map Z0V), _, _]; rw [List.map_append]; rfl)
   rw [List.take_add_one, hlj] at hl2
   rcases List.mem_append.1 hl2 with h | h
   ·exact hok l2 h
   have e : l2 = l := by simpa using h
   rw [e]
   exact ⟨ZO, fun q hq => hqs q (by rw [List.take_of_length_le ZO]; exact hq)⟩
  exact (.cons rfl ZN .nil)
 refine Z0H ?_
 refine Z06 ?_
 refine Z06 ?_
 refine Z0h ?_
 refine Z02 ?_
 refine Zk [4] ?_
 refine Z03 (Z00 (Zm (Zg (Zg (Z01 (Z02 ?_))))))
 refine Zk [2, 3] ?_
 refine Z0i ?_
 refine Z0P results5 rfl rfl ?_
 refine ⟨_, rfl, ?_⟩
 have e : i = ls.length := by omega
 subst e
 rw [hvl, hN.gw] at H3
 exact ⟨_, _, rfl, .inr ⟨⟨ZO, fun l hl => hok l (by rw [List.take_length]; exact hl)⟩, rfl, b3_4, X, rfl, hN.abs, H3.grows⟩⟩
section
variable {P : Program} {N : Nat} {ρ : Env} {w w0 : World} {Q : Z26} {ops : Array Oper} {rest : List Oper} {d : Nat} {ty : TypeId} {pos : String} {af : Array Edge} {g : Option (Nat × Bool)} {B : Nat} {M : Nat → Prop} {σ σ' : List As}
theorem Z40 {x y : Operand} {p : Option Addr} {T U : TypeId} (hT : P.underlying T = some (.pointer (P.pointee T))) (hg : Z0t ops ρ g = true) (hN : Nat.blt d N = true) (hx : Z0g ρ x = some (.pointer p)) (hy : Z0g ρ y = some (.pointer none)) (n : RunL P N ops Q rest ((d, .bool (decide (p.isNone = true))) :: ρ) w) : RunL P N ops Q (⟨some d, .binOp .eql T x y U, ty, pos, af, g⟩ :: rest) ρ w :=
 Z1n hg rfl hN (fun a ha => by
  have hgd : (eqGuard .eql T x y (.pointer p) (.pointer none)).run P w = .ok () w := by simp [eqGuard]
  simp only [execOp, ha.eval hx, ha.eval hy, Sem.run_bind, hgd, Result.andThen_ok]
  rw [run_eql_pointer_nil _ T p hT]
  cases p <;> rfl) n
end
theorem newH_ok {l : List Int} {G : GW} (h : okR l) : HdOk G (newH l) := by
 refine ⟨h.2, h.1, ?_, ?_, ?_, ?_, ?_, fun k hk => absurd hk (Nat.not_lt_zero _)⟩ <;> unfold newH <;> dsimp only <;> split <;> intros <;> first | omega | (simp; done) | (constructor <;> omega) | skip
theorem newG_wf {ls : List (List Int)} (h : okA ls) : Wf (newG ls) := by
 refine ⟨by simpa [newG] using h.1, by simp [newG], by simp [newG], fun i hd hh => ?_, fun s y hy => ?_, fun i j hd k _ h1 _ hl _ => ?_⟩
 ·have hh : (ls.map newH)[i]? = some hd := hh
  rw [List.getElem?_map] at hh
  cases hl : ls[i]? with
  | none => rw [hl] at hh; cases hh
  | some l =>
   rw [hl] at hh
   cases hh
   exact newH_ok (h.2 l (List.mem_of_getElem? hl))
 ·have hy : (List.replicate 41 (⟨0, 0, false⟩ : Sg))[s]? = some y := hy
  rw [List.getElem?_replicate] at hy
  split at hy
  ·cases hy
   exact .inl ⟨rfl, rfl, rfl⟩
  cases hy
 have h1 : (ls.map newH)[i]? = some hd := h1
 rw [List.getElem?_map] at h1
 cases hl2 : ls[i]? with
 | none => rw [hl2] at h1; cases h1
 | some l =>
  rw [hl2] at h1
  cases h1
  unfold newH at hl
  dsimp only at hl
  split at hl <;> omega
theorem newOk (v : Value) (vs : List Value) (ls : List (List Int)) (hvl : vs.length = ls.length) (hvb : vs.length ≤ 1099511627776) (hrg : ∀ l ∈ ls, Rg (-9223372036854775808) 9223372036854775807 l ∧ 0 ≤ l.length) (hok : okA ls) (w : World) (hv : IV w v vs) (hvs : ∀ (j : Nat) (x : Value) (l : List Int), vs[j]? = some x → ls[j]? = some l → IV w x (ints .i64 l)) :
  Z0f P 5 [v] w fun r w' => ∃ (b : Nat) (X : Gm), r = .tuple #[ptr b, .int .i64 0] ∧ X.abs = newG ls ∧ Grow w w' (gW b X) :=
 Calls.mono (NewG v vs ls hvl hvb hrg w hv hvs) fun e w' he => by
  obtain ⟨r, e1, rv, e2, rfl, ⟨hn, _⟩ | ⟨_, rfl, b, X, rfl, hX, hG⟩⟩ := he
  ·exact absurd hok hn
  exact ⟨_, e1, b, X, rfl, hX, hG⟩
theorem newBad (v : Value) (vs : List Value) (ls : List (List Int)) (hvl : vs.length = ls.length) (hvb : vs.length ≤ 1099511627776) (hrg : ∀ l ∈ ls, Rg (-9223372036854775808) 9223372036854775807 l ∧ 0 ≤ l.length) (hok : ¬ okA ls) (w : World) (hv : IV w v vs) (hvs : ∀ (j : Nat) (x : Value) (l : List Int), vs[j]? = some x → ls[j]? = some l → IV w x (ints .i64 l)) :
  Z0f P 5 [v] w fun r w' => r = .tuple #[.pointer none, .int .i64 280] ∧ Grow w w' [] :=
 Calls.mono (NewG v vs ls hvl hvb hrg w hv hvs) fun e w' he => by
  obtain ⟨r, e1, rv, e2, rfl, ⟨_, rfl, rfl, hG⟩ | ⟨hn, _⟩⟩ := he
  ·exact ⟨_, e1, rfl, hG⟩
  exact absurd hn hok
theorem doRes_wf {G : GW} {k : Int} (h : Wf G) : Wf (doRes G k).2 := by
 unfold doRes
 split
 ·show Wf (Z1E G k.toNat)
  unfold Z1E
  split
  ·rename_i i hi
   exact h.step (Z2O (List.mem_of_getElem? hi)).2
  exact h
 exact h
theorem Z27 (G : GW) (i : Int) : Z1g 2 (Z2J G i) := by
 unfold Z2J
 split
 ·split
  ·exact Z2v _
  exact fun _ h => nomatch h
 exact fun _ h => nomatch h
def Z4i : Nat → GW → Nat × GW
 | 0, G => (0, G)
 | n + 1, G => match Z1L G with
  | none => (0, G)
  | some i => let r := Z4i n (Z1S G i); (r.1 + 1, r.2)
theorem Z1Y.cons {G0 G : GW} {i k : Nat} (e : Z1L G0 = some i) (h : Z1Y (Z1S G0 i) k G) : Z1Y G0 (k + 1) G := by
 induction h with
 | zero => exact .succ .zero e
 | succ h e2 ih => exact .succ ih e2
theorem restF_next : ∀ (n : Nat) (G : GW), Z1Y G (Z4i n G).1 (Z4i n G).2
 | 0, _ => .zero
 | n + 1, G => by
  unfold Z4i
  cases e : Z1L G with
  | none => exact .zero
  | some i => exact .cons e (restF_next n _)
theorem rest_eq {G G' : GW} {k n : Nat} (h : Z1Y G k G') (hn : Z1L G' = none) (h2 : Z1L (Z4i n G).2 = none) : k = (Z4i n G).1 ∧ G' = (Z4i n G).2 := by
 have hr := restF_next n G
 have h3 := hr.le h h2
 have h4 := h.le hr hn
 have e : k = (Z4i n G).1 := by omega
 subst e
 exact ⟨rfl, h.det hr⟩
abbrev wkG : GW := newG [[0], [0]]
abbrev wkG1 : GW := (doRes wkG 1).2
abbrev wkG2 : GW := (Z4i 40 wkG1).2
theorem wk_ok : okA [[0], [0]] := ⟨by decide, fun l hl => by simp at hl; subst hl; exact ⟨by decide, by simp⟩⟩
theorem wk_a : (Z0A wkG).length = 2 ∧ (doRes wkG 1).1 = 0 := by decide +kernel
theorem wk_b : (Z4i 40 wkG1).1 = 19 ∧ (Z1L wkG2).isNone = true ∧ overG wkG2 = true ∧ (sgF wkG2 21).built = 1 := by decide +kernel
theorem wk_c : (wkG2.hs[0]?).map (fun h => h.asks.take h.nx) = some [0] := by decide +kernel
theorem wk_d : (entS 0).1 = 170141183460469231731687303715884105728 := by decide +kernel
theorem wk_r : Z2J wkG2 0 = [[.int .u64 9223372036854775808, .int .u64 0]] := by
 unfold Z2J
 rw [if_pos (by decide), show (0 : Int).toNat = 0 from rfl]
 have h := wk_c
 cases hh : wkG2.hs[0]? with
 | none => rw [hh] at h; cases h
 | some x =>
  rw [hh] at h
  have e : x.asks.take x.nx = [0] := by simpa using h
  show Z0Y (x.asks.take x.nx) = _
  rw [e]
  show [wrow (entS 0).1] = _
  rw [wk_d]
  rfl
theorem numL28 (x : Int) (w : World) :
  Z0f P 7 [.int .i64 x] w fun r w' => r = .int .i64 x ∧ w = w' := by
 refine Z0o func7 rfl ntmps7 rfl ?_
 refine Z03 (Z00 (Zg (Z01 (Z02 ?_))))
 refine Zk [0] ?_
 refine Z03 (Z00 (Zm (Zg (Z01 (Z02 ?_)))))
 refine Zk [2] ?_
 refine Z0i ?_
 refine Z0e results7 rfl ?_
 refine ⟨_, rfl, ?_⟩
 exact ⟨rfl, rfl⟩
theorem wakes28  (w : World) :
  Z0f P 8 [] w fun r w' => r = .bool true ∧ Grow w w' [] := by
 refine Z0o func8 rfl ntmps8 rfl ?_
 have H0 := St.start w
 refine Z03 (Z00 (Zg (Z01 (Z02 ?_))))
 refine Zk [] ?_
 refine Z03 (Z00 ?_)
 refine Z2g H0 rfl rfl underlying34 ti3 rfl (.cons rfl ZR .nil) rfl rfl rfl (fun b1_0 w1 H1 => ?_)
 refine Z2g H1 rfl rfl underlying34 ti3 rfl (.cons rfl ZR .nil) rfl rfl rfl (fun b1_1 w2 H2 => ?_)
 refine Z2g H2 rfl rfl underlying22 ti34 rfl (.cons rfl ZR (.cons rfl ZR .nil)) rfl rfl rfl (fun b1_2 w3 H3 => ?_)
 refine Z0I rfl rfl func5 rfl rfl (.cons rfl .nil) (newOk _ [.slice (some ⟨b1_0, 0, none⟩) 1 1, .slice (some ⟨b1_1, 0, none⟩) 1 1] [[0], [0]] rfl (by simp) (by intro l hl; simp at hl; subst hl; exact ⟨fun x hx => by simp at hx; omega, by simp⟩) wk_ok w3 (blk_iv (H3.ok mem0)) (fun j x l h1 h2 => by rcases j with _ | _ | j <;> simp at h1 h2 <;> subst h1 h2 <;> first | exact blk_iv (H3.ok mem2) | exact blk_iv (H3.ok mem1))) ?_
 rintro _ w4 ⟨b, X, rfl, hXa, hG⟩
 have H4 := hG _ _ _ _ H3
 simp only [gW, List.cons_append, List.nil_append] at H4
 refine Zm ?_
 refine Zx (Zx (Zg ?_))
 refine Zg (Z01 (Z02 ?_))
 refine Zk [1, 2] ?_
 refine Z03 (Z03 (Z00 ?_))
 have hwf : Wf X.abs := by rw [hXa]; exact newG_wf wk_ok
 refine Zm ?_
 refine Z13 rfl rfl func7 rfl rfl (.cons rfl .nil) (numL28 _ _) ?_
 refine Zo ?_
 refine Z0j (s := 15) (v' := .bool false) rfl (by simp) ?_
 refine Zm ?_
 refine Zm ?_
 refine Z40 ZK rfl rfl rfl rfl ?_
 refine Z0j (s := 18) (v' := .bool false) rfl (by rfl) ?_
 refine Z0Z rfl rfl rfl rfl ?_
 refine Zm ?_
 refine Zm ?_
 refine Zc func23 (MovesG b X hwf w4 (St.rows (τ := gW b X) H4)) ?_
 rintro mv w5 ⟨_, rfl, hX2⟩
 have H5 := hX2 _ _ _ _ H4
 simp only [gW, List.cons_append, List.nil_append] at H5
 refine Z1B rfl rfl underlying50 rfl (Own.ik (Z0U _) (H5.ok mem4)) ?_
 refine Zo ?_
 refine Z0j (s := 24) (v' := .bool false) rfl (by rw [Z1m, hXa, wk_a.1]; rfl) ?_
 refine Z0Z rfl rfl rfl rfl ?_
 refine Z01 (Z02 ?_)
 refine Zk [1, 25] ?_
 refine Z0Q rfl rfl ?_
 refine Z0a (Z02 ?_)
 refine Zk [1] ?_
 refine Z03 (Z00 (Zm ?_))
 refine Zc func10 (DoG b X hwf 1 ZO w5 (St.rows (τ := gW b X) H5)) ?_
 rintro _ w6 ⟨Y, rfl, hY, hX2⟩
 have H6 := hX2 _ _ _ _ H5
 simp only [gW, List.cons_append, List.nil_append] at H6
 refine Zg (Z01 (Z02 ?_))
 refine Zk [1, 3] ?_
 refine Z03 (Z00 ?_)
 have hwfY : Wf Y.abs := by rw [hY]; exact doRes_wf hwf
 refine Zm ?_
 refine Zc func14 (RestG b Y hwfY w6 (St.rows (τ := gW b Y) H6)) ?_
 rintro _ w7 ⟨k, Z, rfl, hZ, hZn, hX2⟩
 have H7 := hX2 _ _ _ _ H6
 simp only [gW, List.cons_append, List.nil_append] at H7
 refine Zg (Z01 (Z02 ?_))
 refine Zk [1, 3, 4] ?_
 refine Z03 (Z00 ?_)
 have hwfZ : Wf Z.abs := hZ.wf hwfY
 rw [hY, hXa] at hZ
 obtain ⟨hk19, hZe⟩ := rest_eq (n := 40) hZ hZn (by have := wk_b.2.1; simpa using this)
 have hrz : Z2J Z.abs 0 = [[.int .u64 9223372036854775808, .int .u64 0]] := by rw [hZe]; exact wk_r
 refine Zm ?_
 refine Zc func20 (ReadG b Z hwfZ 0 w7 (GF.of (σ := _) H7)) ?_
 rintro rd w8 ⟨_, rfl, hG⟩
 have H8 := hG _ _ _ _ H7
 simp only [Zca, Zna] at H8
 refine Zg (Z01 (Z02 ?_))
 refine Zk [1, 3, 4, 5] ?_
 refine Z03 (Z00 (Zm ?_))
 refine Z13 rfl rfl func7 rfl rfl (.cons rfl .nil) (numL28 _ _) ?_
 refine Ze ?_
 refine Z0j (s := 34) (v' := .bool true) rfl (by rw [hXa, wk_a.2]; rfl) ?_
 refine Zm ?_
 refine Zm ?_
 refine Ze ?_
 refine Z0j (s := 37) (v' := .bool true) rfl (by rw [hk19, wk_b.1]; rfl) ?_
 refine Z1l rfl rfl rfl rfl ?_
 refine Zm ?_
 refine Zm ?_
 refine Z0I rfl rfl func25 rfl rfl (.cons rfl .nil) (Z4h b Z hwfZ w8 (GF.of (σ := _) (Z3O (τ := [_]) H8))) ?_
 rintro _ w9 ⟨rfl, hG⟩
 have H9 := hG _ _ _ _ H8
 simp only [Zca, Zna] at H9
 refine Z0j (s := 41) (v' := .bool true) rfl (by rw [hZe]; exact congrArg Value.bool wk_b.2.2.1) ?_
 refine Z1l rfl rfl rfl rfl ?_
 refine Zm ?_
 refine Zm ?_
 refine Z13 rfl rfl func31 rfl rfl (.cons rfl (.cons rfl .nil)) (BuiltG b Z hwfZ.sgX 21 w9 (GF.of (σ := _) (Z3O (τ := [_]) H9))) ?_
 refine Ze ?_
 refine Z0j (s := 46) (v' := .bool true) rfl (by rw [hZe, wk_b.2.2.2]; rfl) ?_
 refine Z1l rfl rfl rfl rfl ?_
 refine Zm ?_
 refine Zm ?_
 refine Z1B rfl rfl underlying47 rfl (Own.ik (Z27 _ _) (H9.ok mem0)) ?_
 refine Ze ?_
 refine Z0j (s := 51) (v' := .bool true) rfl (by rw [hrz]; rfl) ?_
 refine Z1l rfl rfl rfl rfl ?_
 refine Zm ?_
 refine Zm ?_
 refine Z3J (j := 0) rfl rfl underlying47 tz85 (by decide) rfl rfl (Own.ik (Z27 _ _) (H9.ok mem0)) rfl (by rw [hrz]; decide) (fun A7 c7 hA7 => ?_)
 refine Z2w (j := 0) (r := [.int .u64 9223372036854775808, .int .u64 0]) rfl rfl underlying85 rfl tz85 rfl hA7 (Own.ik (Z27 _ _) (H9.ok mem0)) (by rw [hrz]; rfl) ?_
 refine Z16 rfl rfl pl85 ta85 (.one rfl rfl ZR .zero .nil) ?_
 refine l_eqlA rfl rfl fl85 rfl rfl (.int rfl rfl (.int rfl rfl .nil)) ?_
 refine Z0j (s := 58) (v' := .bool true) rfl (by simp) ?_
 refine Z1l rfl rfl rfl rfl ?_
 refine Zg (Z01 (Z02 ?_))
 refine Zk [0] ?_
 refine Z0i ?_
 refine Z0e results8 rfl ?_
 refine ⟨_, rfl, ?_⟩
 have H18 := St.del .head (St.del (.tail .head) (St.del (.tail (.tail .head)) (St.del (.tail (.tail (.tail .head))) (St.del (.tail (.tail (.tail (.tail .head)))) (St.del (.tail (.tail (.tail (.tail (.tail .head))))) (St.del (.tail (.tail (.tail (.tail (.tail (.tail .head)))))) (St.del (.tail (.tail (.tail (.tail (.tail (.tail (.tail .head))))))) (St.del (.tail (.tail (.tail (.tail (.tail (.tail (.tail (.tail .head)))))))) H9))))))))
 exact ⟨rfl, H18.grows⟩
instance (l : List Int) : Decidable (okR l) := by unfold okR; infer_instance
instance (ls : List (List Int)) : Decidable (okA ls) := by unfold okA; infer_instance
def rgA (ls : List (List Int)) : Prop := ∀ l ∈ ls, (∀ x ∈ l, -1000 ≤ x ∧ x ≤ 1000) ∧ l.length ≤ 100
instance (ls : List (List Int)) : Decidable (rgA ls) := by unfold rgA; infer_instance
theorem rgA.rg {ls : List (List Int)} (h : rgA ls) : ∀ l ∈ ls, Rg (-9223372036854775808) 9223372036854775807 l ∧ 0 ≤ l.length := fun l hl =>
 ⟨fun x hx => by have := (h l hl).1 x hx; omega, by have := (h l hl).2; omega⟩
end Go.Proofs.YtgfkagaacdblbaaGreat.W
