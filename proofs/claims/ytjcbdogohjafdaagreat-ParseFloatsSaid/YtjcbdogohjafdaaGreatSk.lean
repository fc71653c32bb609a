/- walks of scan.Exact, the document's Exact -/
import Derived.Test.YtjcbdogohjafdaaGreatSi
import Derived.Test.YtjcbdogohjafdaaGreatLa
set_option linter.unusedVariables false
set_option linter.unusedSimpArgs false
set_option maxRecDepth 10000
namespace Go.Proofs.YtjcbdogohjafdaaGreat.W
open Go.Vc Go.RowKit Tryz
inductive ExR (t : L8) : Int → Int → Int → Prop
 | err {ng : Bool} {wd x p e : Int} {W F : L8} (hr : Z1S t ng wd W F x p e) (he : ¬ e = 0) : ExR t 0 0 e
 | nil {ng : Bool} {wd x p : Int} {W F : L8} (hr : Z1S t ng wd W F x p 0) (hn : ¬ wd = 0 ∨ Z0P (W ++ F) = []) : ExR t 0 0 0
 | num {ng : Bool} {x p : Int} {W F : L8} (hr : Z1S t ng 0 W F x p 0) (hne : ¬ Z0P (W ++ F) = []) : ExR t (pv (Z0P (W ++ F))) (x - F.length) 0
theorem ExR.unique {t : L8} {n x e n' x' e' : Int} (h : ExR t n x e) (k : ExR t n' x' e') : n = n' ∧ x = x' ∧ e = e' := by
 cases h with
 | err hr he =>
  cases k with
  | err hr2 _ => obtain ⟨_, _, _, _, _, _, rfl⟩ := hr.unique hr2; exact ⟨rfl, rfl, rfl⟩
  | nil hr2 _ => obtain ⟨_, _, _, _, _, _, h⟩ := hr.unique hr2; exact absurd h he
  | num hr2 _ => obtain ⟨_, _, _, _, _, _, h⟩ := hr.unique hr2; exact absurd h he
 | nil hr hn =>
  cases k with
  | err hr2 he => obtain ⟨_, _, _, _, _, _, h⟩ := hr2.unique hr; exact absurd h he
  | nil _ _ => exact ⟨rfl, rfl, rfl⟩
  | num hr2 hne =>
   obtain ⟨rfl, rfl, rfl, rfl, _⟩ := hr.unique hr2
   rcases hn with h | h
   ·exact absurd rfl h
   exact absurd h hne
 | num hr hne =>
  cases k with
  | err hr2 he => obtain ⟨_, _, _, _, _, _, h⟩ := hr2.unique hr; exact absurd h he
  | nil hr2 h2 =>
   obtain ⟨rfl, rfl, rfl, rfl, _⟩ := hr.unique hr2
   rcases h2 with h | h
   ·exact absurd rfl h
   exact absurd h hne
  | num hr2 _ => obtain ⟨rfl, _, rfl, rfl, rfl, _⟩ := hr.unique hr2; exact ⟨rfl, rfl, rfl⟩
theorem Z5F : ∀ (n : Nat) (l : L8), l.length = n → (∀ x ∈ l, isD x) → Ma.blen (pv l) ≤ (4 * n : Nat)
 | 0, l, h, _ => by
  obtain rfl := List.eq_nil_of_length_eq_zero h
  decide
 | n + 1, l, h, hd => by
  have hne : l ≠ [] := by intro e; subst e; simp at h
  have e := List.dropLast_concat_getLast hne
  have hd' : ∀ x ∈ l.dropLast, isD x := fun x hx => hd x ((List.dropLast_sublist l).subset hx)
  have ih := Z5F n l.dropLast (by simp [h]) hd'
  have hb := (Z1i n l.dropLast (by simp [h]) hd').1
  have hl := (hd _ (List.getLast_mem hne)).le
  have := Z3b hb (d := ((l.getLast hne).toNat : Int) - 48) ZO
  rw [← e, Z2X, Int.mul_comm]
  omega
theorem Z1S.short {t : L8} {ng : Bool} {wd x p e : Int} {W F : L8} (h : Z1S t ng wd W F x p e) : W.length ≤ 1024 ∧ F.length ≤ 1024 := by
 cases h with
 | long _ => simp
 | form _ _ => simp
 | ok h hc => have := hc.facts; omega
theorem dig_at {l : L8} (h : ∀ c ∈ l, isD c) : ∀ j, j < l.length → isD (l.getD j 0) := fun j hj => h _ (Z2K hj)
theorem parsed_digs {l : L8} (hd : ∀ c ∈ l, isD c) (h0 : l ≠ []) (hl : l.length ≤ 2048) : Z3D l = (0, pv l) := parsed_ok h0 (dig_at hd) (by have := Z5F l.length l rfl hd; omega)
theorem Z5g {v : Value} {l : List Int} {n : Int} (hR : R16 l n) (hL : l.length ≤ 17592186044416) {w : World} (hv : IV w v (ints .i64 l)) : Z0g P 79 [v] w fun r w' => r = v ∧ w = w' := by
 obtain ⟨A, c, rfl, hc, hs⟩ := hv
 refine (trimR A c l hR.d hL w ⟨A, c, rfl, hc, hs⟩).mono ?_
 rintro r w' ⟨rfl, rfl⟩
 rw [Ma.Tr.tr_eq hR.tr]
 exact ⟨by simp, rfl⟩
theorem exactS (v : Value) (t : L8) (hL : t.length ≤ 1099511627776) (w : World) (hv : IB w v t) :
  Z0g P 122 [v] w fun r w' => ∃ v ls n x e, r = .tuple #[v, .int .i64 x, .int .i64 e] ∧ Ma.Cn 18446744073709551616 ls n ∧ ExR t n x e ∧ Grow w w' [As.ri 30 .u64 v ls] := by
 refine Z0o func122 rfl ntmps122 rfl ?_
 have H0 := St.start w
 refine Z03 (Z00 (Zg (Zg (Zg (Z02 (Z01 (Z03 (Z00 (Zm ?_)))))))))
 refine Zc func142 (readS v t hL w w (H0.iarg hv) hv) ?_
 rintro _ w1 ⟨ng, wd, vw, vf, W, F, x, p, e, rfl, hR, hvw, hvf, hG⟩
 have H1 := hG _ _ _ _ H0
 simp only [Zca, Zna] at H1
 obtain ⟨hdg, hWl, hFl, hx1, hx2, _, _⟩ := hR.facts
 have hone1 := Z16 hvw
 have hone2 := Z16 hvf
 have hsh := hR.short
 refine Zm ?_
 refine Zx (Zx (Zx ?_))
 refine Z0H H1 ta227 rfl rfl (fun b1_6 w2 H2 => ?_)
 refine Z0a H2 .head (.zero (.zero (.zero (.zero (.zero .nil))))) rfl Z12 rfl rfl ZC (fun w3 H3 => ?_)
 refine Zg (Zg (Z02 (Z01 (Z03 (Z00 ?_)))))
 refine Z0e H3 mem0 rfl rfl underlying227 rfl Z12 rfl (.take (.take (.take (.take (.take .nil))))) ?_
 refine Zc func143 (allS ng wd x vw vf W F ZO ZO w3 (H3.iarg hvw) (H3.iarg hvf)) ?_
 rintro _ w4 ⟨vl, rfl, hG⟩
 have H4 := hG _ _ _ _ H3
 simp only [Zca, Zna] at H4
 obtain ⟨L, hLe⟩ : ∃ L, L = Z0P (W ++ F) := ⟨_, rfl⟩
 rw [← hLe] at H4
 have hLl := Z3g (W ++ F)
 rw [← hLe, List.length_append] at hLl
 have hdL : ∀ c ∈ L, isD c := fun c hc => hdg c (Z2k (hLe ▸ hc))
 refine Zg (Z02 (Z01 ?_))
 refine Zk [4, 5, 7] ?_
 refine Z03 (Z03 (Z00 (Zm ?_)))
 refine Zo ?_
 refine Zm ?_
 apply l_or 3 [4, 5, 7] rfl rfl (.cons rfl (.cons rfl (.cons rfl (.cons rfl .nil)))) rfl rfl (fun _ => rfl) rfl rfl rfl
 ·intro hg3_3
  refine Z0b Z3r rfl rfl rfl ?_
  refine Z07 H4 mem1 rfl rfl underlying3 rfl rfl rfl ?_
  refine Zo ?_
  refine Z02 ?_
  exact Z0n rfl (.cons rfl (ZF hg3_3) (.cons rfl rfl (.cons rfl rfl (.cons rfl rfl .nil))))
 refine Zm ?_
 apply l_or 3 [4, 5, 7] rfl rfl (.cons rfl (.cons rfl (.cons rfl (.cons rfl .nil)))) rfl rfl (fun _ => rfl) rfl rfl rfl
 ·intro hg3_8
  refine Zm ?_
  refine Z0I rfl rfl underlying26 rfl (by first | exact H4.ii mem0 | exact H4.ibl mem1 | exact H4.iarg hv | exact H4.iarg hvw | exact H4.iarg hvf | assumption) ?_
  refine Ze ?_
  refine Z02 ?_
  exact Z0n rfl (.cons rfl (ZF hg3_8) (.cons rfl rfl (.cons rfl rfl (.cons rfl rfl .nil))))
 refine Z02 (Z01 ?_)
 (first | refine Z08 rfl ?_ ?_ | refine Z05 rfl ?_ ?_) <;> intro hc0
 ·refine Z03 (Z00 (Zm (Zg (Zg (Zg (Z02 (Z01 ?_)))))))
  refine Z0f ?_
  refine Z06 ?_
  refine Z0p results122 (.tmp rfl (.tmp rfl (.tmp rfl .nil))) rfl ?_
  refine ⟨_, rfl, ?_⟩
  have H6 := St.del .head (St.del (.tail .head) H4)
  rcases Classical.em (e = 0) with he | he
  ·subst he
   exact ⟨_, [], 0, 0, 0, rfl, Ma.Cn.nil, .nil hR (by rw [← hLe]; rcases hc0 with (h | h) | h; exact absurd rfl h; exact .inl h; exact .inr (List.eq_nil_of_length_eq_zero ZO)), (H6.nil 30).grows⟩
  exact ⟨_, [], 0, 0, e, rfl, Ma.Cn.nil, .err hR he, (H6.nil 30).grows⟩
 refine Z09 (Z01 ?_)
 refine Zk [5, 7] ?_
 refine Z03 (Z00 (Zm ?_))
 refine Z3l (l := L) rfl rfl underlying26 underlying5 underlying9 rfl (by first | exact H4.ii mem0 | exact H4.ibl mem1 | exact H4.iarg hv | exact H4.iarg hvw | exact H4.iarg hvf | assumption) ?_
 have he0 : e = 0 := by omega
 have hwd : wd = 0 := by omega
 have hL0 : L ≠ [] := fun h => by rw [h] at hc0; simp at hc0
 subst he0 hwd
 refine Zc func159 (parseN L ZO w4) ?_
 rintro _ w7 ⟨vn, ls, rfl, hcn, hG⟩
 have H7 := hG _ _ _ _ H4
 simp only [Zca, Zna] at H7
 rw [parsed_digs hdL hL0 ZO] at hcn
 refine Zm ?_
 refine Zx (Zx (Zg (Z02 (Z01 (Z03 ?_)))))
 refine Z2a ZK ZK ?_
 have H8 := H7.drewn
 refine Zm (Z0b Z2b rfl rfl rfl ?_)
 refine Z07 H8 mem2 rfl rfl underlying3 rfl rfl rfl ?_
 refine Z0b Z3s rfl rfl rfl ?_
 refine Z07 H8 mem2 rfl rfl underlying26 rfl rfl rfl ?_
 refine Z0I rfl rfl underlying26 rfl (by first | exact H8.io mem0 | exact H8.ii mem1 | exact H8.ibl mem2 | exact H8.iarg hv | exact H8.iarg hvw | exact H8.iarg hvf | assumption) ?_
 refine Z0F rfl rfl rfl rfl (Z0h ZO) ?_
 refine Zg (Zg (Zg (Z02 (Z01 ?_))))
 refine Z0f ?_
 refine Z0p results122 (.tmp rfl (.tmp rfl (.tmp rfl .nil))) rfl ?_
 refine ⟨_, rfl, ?_⟩
 have H10 := St.del (.tail .head) (St.del (.tail (.tail .head)) H8)
 refine ⟨_, ls, _, _, 0, rfl, hcn, ?_, H10.grows⟩
 rw [hLe]
 exact .num hR (by rw [← hLe]; exact hL0)
theorem exact8 (v : Value) (t : L8) (hL : t.length ≤ 1099511627776) (w : World) (hv : IB w v t) :
  Z0g P 33 [v] w fun r w' => ∃ v ls n x e, r = .tuple #[v, .int .i64 x, .int .i64 e] ∧ R16 ls n ∧ n < 2 ^ 8192 ∧ ExR t n x e ∧ Grow w w' [As.ri 3 .i64 v ls] := by
 refine Z0o func33 rfl ntmps33 rfl ?_
 have H0 := St.start w
 refine Z03 (Z00 (Zg (Zg (Zg (Z02 (Z01 (Z03 (Z00 (Zm ?_)))))))))
 refine Zc func68 (check8 v t hL w (H0.iarg hv)) ?_
 rintro _ w1 ⟨ng, wd, W, F, en, E, p, e, rfl, hR, hG⟩
 have H1 := hG _ _ _ _ H0
 simp only [Zca, Zna] at H1
 refine Zm ?_
 refine Zx (Zx (Zx ?_))
 refine Z0H H1 Z5L rfl rfl (fun b1_6 w2 H2 => ?_)
 refine Z0a H2 .head (.zero (.zero (.zero (.zero (.zero (.zero .nil)))))) rfl Z1q rfl rfl ZC (fun w3 H3 => ?_)
 refine Zg (Zg (Z02 (Z01 (Z03 (Z03 (Z00 (Zm ?_)))))))
 refine Zo ?_
 refine Z02 (Z01 ?_)
 refine Zk [5, 7, 16] ?_
 (first | refine Z08 rfl ?_ ?_ | refine Z05 rfl ?_ ?_) <;> intro hc0
 ·refine Z03 (Z00 (Zm (Zg (Zg (Zg (Z02 (Z01 ?_)))))))
  refine Z0f ?_
  refine Z06 ?_
  refine Z0p results33 (.tmp rfl (.tmp rfl (.tmp rfl .nil))) rfl ?_
  refine ⟨_, rfl, ?_⟩
  have H4 := St.del .head H3
  have hrr : Z1S t false 0 [] [] 0 p e := by
   cases hR with
   | long h => exact .long h
   | form h => exact h
   | ok _ _ => exact absurd rfl hc0
  exact ⟨_, [], 0, 0, e, rfl, Ma.Cn.nil, Int.pow_pos ZO, .err hrr hc0, (H4.nil 3).grows⟩
 refine Z09 (Z01 (Z03 (Z00 ?_)))
 have he0 : e = 0 := by omega
 obtain ⟨hp0, hRC⟩ : p = 0 ∧ RC t ng wd W F en E true := by
  cases hR with
  | long _ => cases he0
  | form _ => cases he0
  | ok _ hc => exact ⟨rfl, hc⟩
 have hl1024 : t.length ≤ 1024 := by
  cases hR with
  | long _ => cases he0
  | form _ => cases he0
  | ok h _ => exact h
 obtain ⟨ng', hRd, hng⟩ := hRC.read hl1024
 obtain ⟨hdg, hWl, hFl, hx1, hx2, _, _⟩ := hRd.facts
 have hEd := hRC.digs
 have hEl : E.length ≤ 1099511627776 := by
  have := hRC.elen
  omega
 obtain ⟨L, hLe⟩ : ∃ L, L = Z0P (W ++ F) := ⟨_, rfl⟩
 have hLl := Z3g (W ++ F)
 rw [← hLe, List.length_append] at hLl
 have hdL : ∀ c ∈ L, isD c := fun c hc => hdg c (Z2k (hLe ▸ hc))
 have hbl : Ma.blen (pv L) ≤ (8192 : Nat) := by have := Z5F L.length L rfl hdL; omega
 have hpn := (Z1i L.length L rfl hdL).1
 refine Z0e H3 mem0 rfl rfl underlying143 rfl Z1q rfl (.take (.take (.take (.take (.take (.take .nil)))))) ?_
 refine Zc func69 (all8R ng wd W F en E ZO ZO w3) ?_
 rintro _ w5 ⟨rfl, hG⟩
 have H5 := hG _ _ _ _ H3
 simp only [Zca, Zna] at H5
 refine Z0q (s := 19) (v' := str L) rfl (by rw [hLe]) ?_
 refine Zg (Z02 (Z01 ?_))
 refine Zk [5, 8] ?_
 refine Z03 (Z03 (Z00 (Z0b Z47 rfl rfl rfl ?_)))
 refine Z07 H5 mem0 rfl rfl underlying3 rfl rfl rfl ?_
 refine Zo ?_
 refine Zm ?_
 apply l_or 2 [5, 8] rfl rfl (.cons rfl (.cons rfl (.cons rfl .nil))) rfl rfl (fun _ => rfl) rfl rfl rfl
 ·intro hg5_4
  refine Zm ?_
  refine Z2R rfl rfl rfl rfl ?_
  refine Z02 ?_
  exact Z0n rfl (.cons rfl (ZF hg5_4) (.cons rfl rfl (.cons rfl rfl .nil)))
 refine Z02 (Z01 ?_)
 (first | refine Z08 rfl ?_ ?_ | refine Z05 rfl ?_ ?_) <;> intro hc1
 ·refine Z03 (Z00 (Zg (Zg (Zg (Z02 (Z01 ?_))))))
  refine Z0f ?_
  refine Z06 ?_
  refine Z0p results33 (.tmp rfl (.tmp rfl (.tmp rfl .nil))) rfl ?_
  refine ⟨_, rfl, ?_⟩
  have H6 := St.del .head H5
  exact ⟨_, [], 0, 0, 0, rfl, Ma.Cn.nil, Int.pow_pos ZO, .nil hRd (hc1.imp id fun h => by rw [← hLe]; exact h), (H6.nil 3).grows⟩
 refine Z09 (Z01 ?_)
 refine Zk [5, 8] ?_
 refine Z03 ?_
 have H7 := H5.drewn
 have hwd : wd = 0 := Classical.not_not.1 (fun h => hc1 (.inl h))
 have hL0 : L ≠ [] := fun h => hc1 (.inr h)
 refine Z2t (n := 13) [Zz,Zz,Zz,Zz,Zz,Zz,Zz,Zz,Zz,Zz,Zz,Zz,Zz] (fun wS => (As.blk b1_6 143 [.bool ng, .int .i64 wd, str W, str F, .bool en, str E]).ok wS) ZK rfl rfl ?_
 apply Zu (L' := [Zy,Zz,Zz,Zz,Zz,Zz,Zz,Zz,Zz,Zz,Zz,Zz,Zz]) 0 (H7.ok mem0)
 ·intro wS sS
  refine Zm (Z02 ?_)
  exact Z0m rfl
 apply Zu (L' := [Zy,Zz,Zz,Zz,Zy,Zz,Zz,Zz,Zz,Zz,Zz,Zz,Zz]) 4 (H7.ok mem0)
 ·intro wS sS
  refine Z0e (Z1x sS) mem0 rfl rfl underlying143 rfl Z1q rfl (.take (.take (.take (.take (.take (.take .nil)))))) ?_
  refine Z02 ?_
  exact Z0m rfl
 apply Zu (L' := [Zy,Zz,Zz,Zz,Zy,Zz,Zy,Zz,Zz,Zz,Zz,Zz,Zz]) 6 (H7.ok mem0)
 ·intro wS sS
  refine Z0b Z4D rfl rfl rfl (Z02 ?_)
  exact Z0m rfl
 apply Zu (L' := [Zy,Zz,Zz,Zz,Zy,Zz,Zy,Zy,Zz,Zz,Zz,Zz,Zz]) 7 (H7.ok mem0)
 ·intro wS sS
  refine Z07 (Z1x sS) mem0 rfl rfl underlying9 rfl rfl rfl ?_
  refine Z02 ?_
  exact Z0m rfl
 refine Z3T (L' := [Zy,Zy,Zz,Zz,Zy,Zz,Zy,Zy,Zz,Zz,Zz,Zz,Zz]) (L'' := [Zy,Zz,Zz,Zz,Zy,Zz,Zy,Zy,Zy,Zz,Zz,Zz,Zz]) 1 8 ZK rfl rfl rfl rfl ?_ ?_
 ·refine Z3V H7 rfl rfl underlying9 underlying26 underlying5 rfl (fun v7_1 w8 H8 => ?_)
  refine Z02 ?_
  refine Z0D (H8.ok mem1) ?_
  refine Z3T (L' := [Zy,Zy,Zy,Zz,Zy,Zz,Zy,Zy,Zz,Zz,Zz,Zz,Zz]) (L'' := [Zy,Zy,Zz,Zz,Zy,Zz,Zy,Zy,Zy,Zz,Zz,Zz,Zz]) 2 8 ZK rfl rfl rfl rfl ?_ ?_
  ·refine Z0N rfl rfl func80 rfl rfl (.cons rfl .nil) (Z5P _ L (dig_at hdL) ZO w8 (H8.ii mem0)) ?_
   rintro vn w9 ⟨_, ls, rfl, hRn, hG⟩
   have H9 := hG _ _ _ _ H8
   simp only [Zca, Zna] at H9
   refine Z02 ?_
   refine Z0D (H9.ok mem2) ?_
   refine Z3T (L' := [Zy,Zy,Zy,Zy,Zy,Zz,Zy,Zy,Zz,Zz,Zz,Zz,Zz]) (L'' := [Zy,Zy,Zy,Zz,Zy,Zz,Zy,Zy,Zy,Zz,Zz,Zz,Zz]) 3 8 ZK rfl rfl rfl rfl ?_ ?_
   ·refine Zp func79 (Z5g hRn (by have := hRn.len (k := 8192) hbl; omega) (H9.io mem0)) ?_
    refine Z02 ?_
    refine Z0D (H9.ok mem2) ?_
    refine Z3T (L' := [Zy,Zy,Zy,Zy,Zy,Zy,Zy,Zy,Zz,Zz,Zz,Zz,Zz]) (L'' := [Zy,Zy,Zy,Zy,Zy,Zz,Zy,Zy,Zy,Zz,Zz,Zz,Zz]) 5 8 ZK rfl rfl rfl rfl ?_ ?_
    ·refine Zc func71 (expo8 ng wd W F en E hEd hEl w9) ?_
     rintro _ w10 ⟨rfl, hG⟩
     have H10 := hG _ _ _ _ H9
     simp only [Zca, Zna] at H10
     refine Z02 ?_
     refine Z0D (H10.ok mem2) ?_
     apply Zu (L' := [Zy,Zy,Zy,Zy,Zy,Zy,Zy,Zy,Zz,Zz,Zy,Zz,Zz]) 10 (H10.ok mem2)
     ·intro wS sS
      refine Zg (Z02 ?_)
      exact Z0m rfl
     refine Z0K (L' := [Zy,Zy,Zy,Zy,Zy,Zy,Zy,Zy,Zy,Zz,Zy,Zz,Zz]) 8 ZK rfl rfl ?_
     refine Z0X rfl rfl underlying9 rfl ?_
     refine Z02 ?_
     refine Z0D (H10.ok mem2) ?_
     apply Zu (L' := [Zy,Zy,Zy,Zy,Zy,Zy,Zy,Zy,Zy,Zy,Zy,Zz,Zz]) 9 (H10.ok mem2)
     ·intro wS sS
      refine Z0F rfl rfl rfl rfl (Z0h ZO) ?_
      refine Z02 ?_
      exact Z0m rfl
     apply Zu (L' := [Zy,Zy,Zy,Zy,Zy,Zy,Zy,Zy,Zy,Zy,Zy,Zy,Zz]) 11 (H10.ok mem2)
     ·intro wS sS
      refine Zg (Z02 ?_)
      exact Z0m rfl
     apply Zu (L' := [Zy,Zy,Zy,Zy,Zy,Zy,Zy,Zy,Zy,Zy,Zy,Zy,Zy]) 12 (H10.ok mem2)
     ·intro wS sS
      refine Zg (Z02 ?_)
      exact Z0m rfl
     refine Z14 ZK ?_
     refine Z01 ?_
     refine Z0f ?_
     refine Z0p results33 (.tmp rfl (.tmp rfl (.tmp rfl .nil))) rfl ?_
     refine ⟨_, rfl, ?_⟩
     have H12 := St.del (.tail .head) (St.del (.tail (.tail .head)) H10)
     subst hwd
     refine ⟨_, ls, pv L, _, 0, rfl, hRn, (Ma.blen_le_iff hpn 8192).1 hbl, ?_, H12.grows⟩
     rw [hLe]
     exact .num hRd (by rw [← hLe]; exact hL0)
    refine Z0X rfl rfl underlying9 rfl ?_
    refine Z02 ?_
    refine Z0D (H9.ok mem2) ?_
    refine Z0K (L' := [Zy,Zy,Zy,Zy,Zy,Zy,Zy,Zy,Zy,Zz,Zz,Zz,Zz]) 5 ZK rfl rfl ?_
    refine Zc func71 (expo8 ng wd W F en E hEd hEl w9) ?_
    rintro _ w13 ⟨rfl, hG⟩
    have H13 := hG _ _ _ _ H9
    simp only [Zca, Zna] at H13
    refine Z02 ?_
    refine Z0D (H13.ok mem2) ?_
    apply Zu (L' := [Zy,Zy,Zy,Zy,Zy,Zy,Zy,Zy,Zy,Zy,Zz,Zz,Zz]) 9 (H13.ok mem2)
    ·intro wS sS
     refine Z0F rfl rfl rfl rfl (Z0h ZO) ?_
     refine Z02 ?_
     exact Z0m rfl
    apply Zu (L' := [Zy,Zy,Zy,Zy,Zy,Zy,Zy,Zy,Zy,Zy,Zy,Zz,Zz]) 10 (H13.ok mem2)
    ·intro wS sS
     refine Zg (Z02 ?_)
     exact Z0m rfl
    apply Zu (L' := [Zy,Zy,Zy,Zy,Zy,Zy,Zy,Zy,Zy,Zy,Zy,Zy,Zz]) 11 (H13.ok mem2)
    ·intro wS sS
     refine Zg (Z02 ?_)
     exact Z0m rfl
    apply Zu (L' := [Zy,Zy,Zy,Zy,Zy,Zy,Zy,Zy,Zy,Zy,Zy,Zy,Zy]) 12 (H13.ok mem2)
    ·intro wS sS
     refine Zg (Z02 ?_)
     exact Z0m rfl
    refine Z14 ZK ?_
    refine Z01 ?_
    refine Z0f ?_
    refine Z0p results33 (.tmp rfl (.tmp rfl (.tmp rfl .nil))) rfl ?_
    refine ⟨_, rfl, ?_⟩
    have H15 := St.del (.tail .head) (St.del (.tail (.tail .head)) H13)
    subst hwd
    refine ⟨_, ls, pv L, _, 0, rfl, hRn, (Ma.blen_le_iff hpn 8192).1 hbl, ?_, H15.grows⟩
    rw [hLe]
    exact .num hRd (by rw [← hLe]; exact hL0)
   refine Z0X rfl rfl underlying9 rfl ?_
   refine Z02 ?_
   refine Z0D (H9.ok mem2) ?_
   refine Z0K (L' := [Zy,Zy,Zy,Zy,Zy,Zz,Zy,Zy,Zy,Zz,Zz,Zz,Zz]) 3 ZK rfl rfl ?_
   refine Zp func79 (Z5g hRn (by have := hRn.len (k := 8192) hbl; omega) (H9.io mem0)) ?_
   refine Z02 ?_
   refine Z0D (H9.ok mem2) ?_
   refine Z0K (L' := [Zy,Zy,Zy,Zy,Zy,Zy,Zy,Zy,Zy,Zz,Zz,Zz,Zz]) 5 ZK rfl rfl ?_
   refine Zc func71 (expo8 ng wd W F en E hEd hEl w9) ?_
   rintro _ w16 ⟨rfl, hG⟩
   have H16 := hG _ _ _ _ H9
   simp only [Zca, Zna] at H16
   refine Z02 ?_
   refine Z0D (H16.ok mem2) ?_
   apply Zu (L' := [Zy,Zy,Zy,Zy,Zy,Zy,Zy,Zy,Zy,Zy,Zz,Zz,Zz]) 9 (H16.ok mem2)
   ·intro wS sS
    refine Z0F rfl rfl rfl rfl (Z0h ZO) ?_
    refine Z02 ?_
    exact Z0m rfl
   apply Zu (L' := [Zy,Zy,Zy,Zy,Zy,Zy,Zy,Zy,Zy,Zy,Zy,Zz,Zz]) 10 (H16.ok mem2)
   ·intro wS sS
    refine Zg (Z02 ?_)
    exact Z0m rfl
   apply Zu (L' := [Zy,Zy,Zy,Zy,Zy,Zy,Zy,Zy,Zy,Zy,Zy,Zy,Zz]) 11 (H16.ok mem2)
   ·intro wS sS
    refine Zg (Z02 ?_)
    exact Z0m rfl
   apply Zu (L' := [Zy,Zy,Zy,Zy,Zy,Zy,Zy,Zy,Zy,Zy,Zy,Zy,Zy]) 12 (H16.ok mem2)
   ·intro wS sS
    refine Zg (Z02 ?_)
    exact Z0m rfl
   refine Z14 ZK ?_
   refine Z01 ?_
   refine Zk [2, 3, 4] ?_
   refine Z0f ?_
   refine Z0p results33 (.tmp rfl (.tmp rfl (.tmp rfl .nil))) rfl ?_
   refine ⟨_, rfl, ?_⟩
   have H18 := St.del (.tail .head) (St.del (.tail (.tail .head)) H16)
   subst hwd
   refine ⟨_, ls, pv L, _, 0, rfl, hRn, (Ma.blen_le_iff hpn 8192).1 hbl, ?_, H18.grows⟩
   rw [hLe]
   exact .num hRd (by rw [← hLe]; exact hL0)
  refine Z0X rfl rfl underlying9 rfl ?_
  refine Z02 ?_
  refine Z0D (H8.ok mem1) ?_
  refine Z0K (L' := [Zy,Zy,Zy,Zz,Zy,Zz,Zy,Zy,Zy,Zz,Zz,Zz,Zz]) 2 ZK rfl rfl ?_
  refine Z0N rfl rfl func80 rfl rfl (.cons rfl .nil) (Z5P _ L (dig_at hdL) ZO w8 (H8.ii mem0)) ?_
  rintro vn w19 ⟨_, ls, rfl, hRn, hG⟩
  have H19 := hG _ _ _ _ H8
  simp only [Zca, Zna] at H19
  refine Z02 ?_
  refine Z0D (H19.ok mem2) ?_
  refine Z0K (L' := [Zy,Zy,Zy,Zy,Zy,Zz,Zy,Zy,Zy,Zz,Zz,Zz,Zz]) 3 ZK rfl rfl ?_
  refine Zp func79 (Z5g hRn (by have := hRn.len (k := 8192) hbl; omega) (H19.io mem0)) ?_
  refine Z02 ?_
  refine Z0D (H19.ok mem2) ?_
  refine Z0K (L' := [Zy,Zy,Zy,Zy,Zy,Zy,Zy,Zy,Zy,Zz,Zz,Zz,Zz]) 5 ZK rfl rfl ?_
  refine Zc func71 (expo8 ng wd W F en E hEd hEl w19) ?_
  rintro _ w20 ⟨rfl, hG⟩
  have H20 := hG _ _ _ _ H19
  simp only [Zca, Zna] at H20
  refine Z02 ?_
  refine Z0D (H20.ok mem2) ?_
  apply Zu (L' := [Zy,Zy,Zy,Zy,Zy,Zy,Zy,Zy,Zy,Zy,Zz,Zz,Zz]) 9 (H20.ok mem2)
  ·intro wS sS
   refine Z0F rfl rfl rfl rfl (Z0h ZO) ?_
   refine Z02 ?_
   exact Z0m rfl
  apply Zu (L' := [Zy,Zy,Zy,Zy,Zy,Zy,Zy,Zy,Zy,Zy,Zy,Zz,Zz]) 10 (H20.ok mem2)
  ·intro wS sS
   refine Zg (Z02 ?_)
   exact Z0m rfl
  apply Zu (L' := [Zy,Zy,Zy,Zy,Zy,Zy,Zy,Zy,Zy,Zy,Zy,Zy,Zz]) 11 (H20.ok mem2)
  ·intro wS sS
   refine Zg (Z02 ?_)
   exact Z0m rfl
  apply Zu (L' := [Zy,Zy,Zy,Zy,Zy,Zy,Zy,Zy,Zy,Zy,Zy,Zy,Zy]) 12 (H20.ok mem2)
  ·intro wS sS
   refine Zg (Z02 ?_)
   exact Z0m rfl
  refine Z14 ZK ?_
  refine Z01 ?_
  refine Z0f ?_
  refine Z0p results33 (.tmp rfl (.tmp rfl (.tmp rfl .nil))) rfl ?_
  refine ⟨_, rfl, ?_⟩
  have H22 := St.del (.tail .head) (St.del (.tail (.tail .head)) H20)
  subst hwd
  refine ⟨_, ls, pv L, _, 0, rfl, hRn, (Ma.blen_le_iff hpn 8192).1 hbl, ?_, H22.grows⟩
  rw [hLe]
  exact .num hRd (by rw [← hLe]; exact hL0)
 refine Z0X rfl rfl underlying9 rfl ?_
 refine Z02 ?_
 refine Z0D (H7.ok mem0) ?_
 refine Z0K (L' := [Zy,Zy,Zz,Zz,Zy,Zz,Zy,Zy,Zy,Zz,Zz,Zz,Zz]) 1 ZK rfl rfl ?_
 refine Z3V H7 rfl rfl underlying9 underlying26 underlying5 rfl (fun v7_1 w23 H23 => ?_)
 refine Z02 ?_
 refine Z0D (H23.ok mem1) ?_
 refine Z0K (L' := [Zy,Zy,Zy,Zz,Zy,Zz,Zy,Zy,Zy,Zz,Zz,Zz,Zz]) 2 ZK rfl rfl ?_
 refine Z0N rfl rfl func80 rfl rfl (.cons rfl .nil) (Z5P _ L (dig_at hdL) ZO w23 (H23.ii mem0)) ?_
 rintro vn w24 ⟨_, ls, rfl, hRn, hG⟩
 have H24 := hG _ _ _ _ H23
 simp only [Zca, Zna] at H24
 refine Z02 ?_
 refine Z0D (H24.ok mem2) ?_
 refine Z0K (L' := [Zy,Zy,Zy,Zy,Zy,Zz,Zy,Zy,Zy,Zz,Zz,Zz,Zz]) 3 ZK rfl rfl ?_
 refine Zp func79 (Z5g hRn (by have := hRn.len (k := 8192) hbl; omega) (H24.io mem0)) ?_
 refine Z02 ?_
 refine Z0D (H24.ok mem2) ?_
 refine Z0K (L' := [Zy,Zy,Zy,Zy,Zy,Zy,Zy,Zy,Zy,Zz,Zz,Zz,Zz]) 5 ZK rfl rfl ?_
 refine Zc func71 (expo8 ng wd W F en E hEd hEl w24) ?_
 rintro _ w25 ⟨rfl, hG⟩
 have H25 := hG _ _ _ _ H24
 simp only [Zca, Zna] at H25
 refine Z02 ?_
 refine Z0D (H25.ok mem2) ?_
 apply Zu (L' := [Zy,Zy,Zy,Zy,Zy,Zy,Zy,Zy,Zy,Zy,Zz,Zz,Zz]) 9 (H25.ok mem2)
 ·intro wS sS
  refine Z0F rfl rfl rfl rfl (Z0h ZO) ?_
  refine Z02 ?_
  exact Z0m rfl
 apply Zu (L' := [Zy,Zy,Zy,Zy,Zy,Zy,Zy,Zy,Zy,Zy,Zy,Zz,Zz]) 10 (H25.ok mem2)
 ·intro wS sS
  refine Zg (Z02 ?_)
  exact Z0m rfl
 apply Zu (L' := [Zy,Zy,Zy,Zy,Zy,Zy,Zy,Zy,Zy,Zy,Zy,Zy,Zz]) 11 (H25.ok mem2)
 ·intro wS sS
  refine Zg (Z02 ?_)
  exact Z0m rfl
 apply Zu (L' := [Zy,Zy,Zy,Zy,Zy,Zy,Zy,Zy,Zy,Zy,Zy,Zy,Zy]) 12 (H25.ok mem2)
 ·intro wS sS
  refine Zg (Z02 ?_)
  exact Z0m rfl
 refine Z14 ZK ?_
 refine Z01 ?_
 refine Z0f ?_
 refine Z0p results33 (.tmp rfl (.tmp rfl (.tmp rfl .nil))) rfl ?_
 refine ⟨_, rfl, ?_⟩
 have H27 := St.del (.tail .head) (St.del (.tail (.tail .head)) H25)
 subst hwd
 refine ⟨_, ls, pv L, _, 0, rfl, hRn, (Ma.blen_le_iff hpn 8192).1 hbl, ?_, H27.grows⟩
 rw [hLe]
 exact .num hRd (by rw [← hLe]; exact hL0)
end Go.Proofs.YtjcbdogohjafdaaGreat.W
