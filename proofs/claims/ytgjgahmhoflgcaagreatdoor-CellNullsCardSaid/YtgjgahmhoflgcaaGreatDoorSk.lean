/- walks of scan.Exact, the document's Exact -/
import Derived.Test.YtgjgahmhoflgcaaGreatDoorSi
import Derived.Test.YtgjgahmhoflgcaaGreatDoorLa
set_option linter.unusedVariables false
set_option linter.unusedSimpArgs false
set_option maxRecDepth 10000
namespace Go.Proofs.YtgjgahmhoflgcaaGreatDoor.W
open Go.Vc Go.RowKit Tryz
inductive ExR (t : L8) : Int → Int → Int → Prop
 | err {ng : Bool} {wd x p e : Int} {W F : L8} (hr : Z5v t ng wd W F x p e) (he : ¬ e = 0) : ExR t 0 0 e
 | nil {ng : Bool} {wd x p : Int} {W F : L8} (hr : Z5v t ng wd W F x p 0) (hn : ¬ wd = 0 ∨ Z5e (W ++ F) = []) : ExR t 0 0 0
 | num {ng : Bool} {x p : Int} {W F : L8} (hr : Z5v t ng 0 W F x p 0) (hne : ¬ Z5e (W ++ F) = []) : ExR t (pv (Z5e (W ++ F))) (x - F.length) 0
theorem ExR.unique {t : L8} {n x e n' x' e' : Int} (h : ExR t n x e) (k : ExR t n' x' e') : n = n' ∧ x = x' ∧ e = e' := by
 cases h with
 | err hr he =>
  cases k with
  | err hr2 _ => obtain ⟨_, _, _, _, _, _, rfl⟩ := hr.unique hr2; exact ⟨rfl, rfl, rfl⟩
  | nil hr2 _ => obtain ⟨_, _, _, _, _, _, h⟩ := hr.unique hr2; exact absurd h he
  | num hr2 _ => obtain ⟨_, _, _, _, _, _, h⟩ := hr.unique hr2; exact absurd h he
 | nil hr hn =>
  cases k with
  | err hr2 he => obtain ⟨_, _, _, _, _, _, h⟩ := hr2.unique hr; exact absurd h he
  | nil _ _ => exact ⟨rfl, rfl, rfl⟩
  | num hr2 hne =>
   obtain ⟨rfl, rfl, rfl, rfl, _⟩ := hr.unique hr2
   rcases hn with h | h
   ·exact absurd rfl h
   exact absurd h hne
 | num hr hne =>
  cases k with
  | err hr2 he => obtain ⟨_, _, _, _, _, _, h⟩ := hr2.unique hr; exact absurd h he
  | nil hr2 h2 =>
   obtain ⟨rfl, rfl, rfl, rfl, _⟩ := hr.unique hr2
   rcases h2 with h | h
   ·exact absurd rfl h
   exact absurd h hne
  | num hr2 _ => obtain ⟨rfl, _, rfl, rfl, rfl, _⟩ := hr.unique hr2; exact ⟨rfl, rfl, rfl⟩
theorem blen_pv : ∀ (n : Nat) (l : L8), l.length = n → (∀ x ∈ l, isD x) → Ma.blen (pv l) ≤ (4 * n : Nat)
 | 0, l, h, _ => by
  obtain rfl := List.eq_nil_of_length_eq_zero h
  decide
 | n + 1, l, h, hd => by
  have hne : l ≠ [] := by intro e; subst e; simp at h
  have e := List.dropLast_concat_getLast hne
  have hd' : ∀ x ∈ l.dropLast, isD x := fun x hx => hd x ((List.dropLast_sublist l).subset hx)
  have ih := blen_pv n l.dropLast (by simp [h]) hd'
  have hb := (Z50 n l.dropLast (by simp [h]) hd').1
  have hl := (hd _ (List.getLast_mem hne)).le
  have := blen_ten hb (d := ((l.getLast hne).toNat : Int) - 48) ZO
  rw [← e, Z6x, Int.mul_comm]
  omega
theorem Z5v.short {t : L8} {ng : Bool} {wd x p e : Int} {W F : L8} (h : Z5v t ng wd W F x p e) : W.length ≤ 1024 ∧ F.length ≤ 1024 := by
 cases h with
 | long _ => simp
 | form _ _ => simp
 | ok h hc => have := hc.facts; omega
theorem dig_at {l : L8} (h : ∀ c ∈ l, isD c) : ∀ j, j < l.length → isD (l.getD j 0) := fun j hj => h _ (getD_mem hj)
theorem parsed_digs {l : L8} (hd : ∀ c ∈ l, isD c) (h0 : l ≠ []) (hl : l.length ≤ 2048) : Z6n l = (0, pv l) := parsed_ok h0 (dig_at hd) (by have := blen_pv l.length l rfl hd; omega)
theorem exactS (v : Value) (t : L8) (hL : t.length ≤ 1099511627776) (w : World) (hv : IB w v t) :
  Z0f P 245 [v] w fun r w' => ∃ v ls n x e, r = .tuple #[v, .int .i64 x, .int .i64 e] ∧ Ma.Cn 18446744073709551616 ls n ∧ ExR t n x e ∧ Grow w w' [As.ri 24 .u64 v ls] := by
 refine Z0o func245 rfl ntmps245 rfl ?_
 have H0 := St.start w
 refine Z03 (Z00 (Zg (Zg (Zg (Z01 (Z02 ?_))))))
 refine Zk [0] ?_
 refine Z03 (Z00 (Zm ?_))
 refine Zc func229 (readS v t hL w w (H0.iarg hv) hv) ?_
 rintro _ w1 ⟨ng, wd, vw, vf, W, F, x, p, e, rfl, hR, hvw, hvf, hG⟩
 have H1 := hG _ _ _ _ H0
 simp only [Zca, Zna] at H1
 obtain ⟨hdg, hWl, hFl, hx1, hx2, _, _⟩ := hR.facts
 have hone1 := Z52 hvw
 have hone2 := Z52 hvf
 have hsh := hR.short
 refine Zm ?_
 refine Zx (Zx (Zx ?_))
 refine Z0X H1 ta311 rfl rfl (fun b1_6 w2 H2 => ?_)
 refine Z0m H2 .head (.zero (.zero (.zero (.zero (.zero .nil))))) rfl Z51 rfl rfl ZC (fun w3 H3 => ?_)
 refine Zg (Zg (Z01 (Z02 ?_)))
 refine Zk [4, 5] ?_
 refine Z03 (Z00 ?_)
 refine Z1b H3 mem0 rfl rfl underlying311 rfl Z51 rfl (.take (.take (.take (.take (.take .nil))))) ?_
 refine Zc func230 (allS ng wd x vw vf W F ZO ZO w3 (H3.iarg hvw) (H3.iarg hvf)) ?_
 rintro _ w4 ⟨vl, rfl, hG⟩
 have H4 := hG _ _ _ _ H3
 simp only [Zca, Zna] at H4
 obtain ⟨L, hLe⟩ : ∃ L, L = Z5e (W ++ F) := ⟨_, rfl⟩
 rw [← hLe] at H4
 have hLl := Z6t (W ++ F)
 rw [← hLe, List.length_append] at hLl
 have hdL : ∀ c ∈ L, isD c := fun c hc => hdg c (Z6c (hLe ▸ hc))
 refine Zg (Z01 (Z02 ?_))
 refine Zk [4, 5, 7] ?_
 refine Z03 (Z03 (Z00 (Zm ?_)))
 refine Zo ?_
 refine Zm ?_
 apply l_or 3 [4, 5, 7] rfl rfl (.cons rfl (.cons rfl (.cons rfl (.cons rfl .nil)))) rfl rfl (fun _ => rfl) rfl rfl rfl
 ·intro hg3_3
  refine Z09 Z6i rfl rfl rfl ?_
  refine Z05 H4 mem1 rfl rfl underlying3 rfl rfl rfl ?_
  refine Zo ?_
  refine Z01 ?_
  exact Z0O rfl (.cons rfl (ZF hg3_3) (.cons rfl rfl (.cons rfl rfl (.cons rfl rfl .nil))))
 refine Zm ?_
 apply l_or 3 [4, 5, 7] rfl rfl (.cons rfl (.cons rfl (.cons rfl (.cons rfl .nil)))) rfl rfl (fun _ => rfl) rfl rfl rfl
 ·intro hg3_8
  refine Zm ?_
  refine Z4W rfl rfl underlying25 rfl (by first | exact H4.ii mem0 | exact H4.ibl mem1 | exact H4.iarg hv | exact H4.iarg hvw | exact H4.iarg hvf | assumption) ?_
  refine Ze ?_
  refine Z01 ?_
  exact Z0O rfl (.cons rfl (ZF hg3_8) (.cons rfl rfl (.cons rfl rfl (.cons rfl rfl .nil))))
 refine Z01 (Z02 ?_)
 refine Zk [4, 5, 7, 27] ?_
 (first | refine Z0c rfl ?_ ?_ | refine Z08 rfl ?_ ?_) <;> intro hc0
 ·refine Z03 (Z00 (Zm (Zg (Zg (Zg (Z01 (Z02 ?_)))))))
  refine Zk [2, 3, 4] ?_
  refine Z0i ?_
  refine Z07 ?_
  refine Z12 results245 (.tmp rfl (.tmp rfl (.tmp rfl .nil))) rfl ?_
  refine ⟨_, rfl, ?_⟩
  have H6 := St.del .head (St.del (.tail .head) H4)
  rcases Classical.em (e = 0) with he | he
  ·subst he
   exact ⟨_, [], 0, 0, 0, rfl, Ma.Cn.nil, .nil hR (by rw [← hLe]; rcases hc0 with (h | h) | h; exact absurd rfl h; exact .inl h; exact .inr (List.eq_nil_of_length_eq_zero ZO)), (H6.nil 24).grows⟩
  exact ⟨_, [], 0, 0, e, rfl, Ma.Cn.nil, .err hR he, (H6.nil 24).grows⟩
 refine Z0a (Z02 ?_)
 refine Zk [5, 7] ?_
 refine Z03 (Z00 (Zm ?_))
 refine Z6k (l := L) rfl rfl underlying25 underlying5 underlying9 rfl (by first | exact H4.ii mem0 | exact H4.ibl mem1 | exact H4.iarg hv | exact H4.iarg hvw | exact H4.iarg hvf | assumption) ?_
 have he0 : e = 0 := by omega
 have hwd : wd = 0 := by omega
 have hL0 : L ≠ [] := fun h => by rw [h] at hc0; simp at hc0
 subst he0 hwd
 refine Zc func271 (parseN L ZO w4) ?_
 rintro _ w7 ⟨vn, ls, rfl, hcn, hG⟩
 have H7 := hG _ _ _ _ H4
 simp only [Zca, Zna] at H7
 rw [parsed_digs hdL hL0 ZO] at hcn
 refine Zm ?_
 refine Zx (Zx (Zg (Z01 (Z02 ?_))))
 refine Zk [2, 5] ?_
 refine Z03 ?_
 refine Z2F ZK ZK ?_
 have H8 := H7.drewn
 refine Zm (Z09 Z5x rfl rfl rfl ?_)
 refine Z05 H8 mem2 rfl rfl underlying3 rfl rfl rfl ?_
 refine Z09 Z6j rfl rfl rfl ?_
 refine Z05 H8 mem2 rfl rfl underlying25 rfl rfl rfl ?_
 refine Z4W rfl rfl underlying25 rfl (by first | exact H8.io mem0 | exact H8.ii mem1 | exact H8.ibl mem2 | exact H8.iarg hv | exact H8.iarg hvw | exact H8.iarg hvf | assumption) ?_
 refine Z0W rfl rfl rfl rfl (Z0l ZO) ?_
 refine Zg (Zg (Zg (Z01 (Z02 ?_))))
 refine Zk [2, 3, 4] ?_
 refine Z0i ?_
 refine Z12 results245 (.tmp rfl (.tmp rfl (.tmp rfl .nil))) rfl ?_
 refine ⟨_, rfl, ?_⟩
 have H10 := St.del (.tail .head) (St.del (.tail (.tail .head)) H8)
 refine ⟨_, ls, _, _, 0, rfl, hcn, ?_, H10.grows⟩
 rw [hLe]
 exact .num hR (by rw [← hLe]; exact hL0)
end Go.Proofs.YtgjgahmhoflgcaaGreatDoor.W
