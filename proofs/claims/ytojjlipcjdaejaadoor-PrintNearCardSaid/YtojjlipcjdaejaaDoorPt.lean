/- walk of the law PrintNear -/
import Derived.Test.YtojjlipcjdaejaaDoorPs
set_option linter.unusedVariables false
set_option linter.unusedSimpArgs false
set_option maxRecDepth 10000
namespace Go.Proofs.YtojjlipcjdaejaaDoor.W
open Go.Vc Go.RowKit
theorem trim_same {v : Value} {l : List Int} {n : Int} (hR : R16 l n) (hL : l.length ≤ 17592186044416) {w : World} (hv : IV w v (ints .i64 l)) : CallsV P 16 [v] w fun r w' => r = v ∧ w = w' := by
 obtain ⟨A, c, rfl, hc, hs⟩ := hv
 refine (trimR A c l hR.d hL w ⟨A, c, rfl, hc, hs⟩).mono ?_
 rintro r w' ⟨rfl, rfl⟩
 rw [Ma.Tr.tr_eq hR.tr]
 exact ⟨by simp, rfl⟩
abbrev isG (c : UInt8) : Prop := 48 ≤ (c.toNat : Int) ∧ (c.toNat : Int) ≤ 57
def stV (v : Int) (c : UInt8) : Int := if (c.toNat : Int) = 46 then v else if (c.toNat : Int) = 45 then v else v * 10 + ((c.toNat : Int) - 48)
def nrV (l : List UInt8) : Int := l.foldl stV 0
def stB (p : Int × Bool) (c : UInt8) : Int × Bool := if (c.toNat : Int) = 46 then (p.1, true) else if (c.toNat : Int) = 45 then p else (if p.2 = true then p.1 + 1 else p.1, p.2)
def nrB (l : List UInt8) : Int × Bool := l.foldl stB (0, false)
theorem nrV_snoc (l : List UInt8) (c : UInt8) : nrV (l ++ [c]) = stV (nrV l) c := by unfold nrV; rw [List.foldl_append]; rfl
theorem nrB_snoc (l : List UInt8) (c : UInt8) : nrB (l ++ [c]) = stB (nrB l) c := by unfold nrB; rw [List.foldl_append]; rfl
theorem take_snoc {l : List UInt8} {i : Nat} (h : i < l.length) : l.take (i + 1) = l.take i ++ [l.getD i 0] := by
 rw [List.take_add_one, List.getD_eq_getElem?_getD, List.getElem?_eq_getElem h]
 rfl
theorem stV_bd : ∀ (l : List UInt8) (v : Int), 0 ≤ v → (∀ c ∈ l, (c.toNat : Int) = 45 ∨ (c.toNat : Int) = 46 ∨ isG c) → 0 ≤ l.foldl stV v ∧ l.foldl stV v < (v + 1) * 10 ^ l.length
 | [], v, hv, _ => by simp; omega
 | c :: l, v, hv, h => by
  have hc := h c (.head _)
  have h1 : 0 ≤ stV v c ∧ stV v c + 1 ≤ (v + 1) * 10 := by
   unfold stV isG at *
   split
   ·omega
   ·split <;> omega
  have ih := stV_bd l (stV v c) h1.1 fun x hx => h x (.tail _ hx)
  refine ⟨ih.1, Int.lt_of_lt_of_le ih.2 ?_⟩
  rw [List.length_cons, Int.pow_succ, Int.mul_comm (10 ^ l.length) 10, ← Int.mul_assoc]
  exact Int.mul_le_mul_of_nonneg_right h1.2 (Int.le_of_lt (p10 _))
theorem nrV_bd {l : List UInt8} (h : ∀ c ∈ l, (c.toNat : Int) = 45 ∨ (c.toNat : Int) = 46 ∨ isG c) : 0 ≤ nrV l ∧ nrV l < 10 ^ l.length := by
 have := stV_bd l 0 (by omega) h
 rw [show (0 : Int) + 1 = 1 by omega, Int.one_mul] at this
 exact this
theorem dig_G {r : Int} (h : 0 ≤ r ∧ r ≤ 9) : isG (dig r) := by
 have := dig_toNat h
 unfold isG
 omega
theorem dt0_G : ∀ (m n : Nat), n ≤ m → (∀ c ∈ dt0 n, isG c) ∧ nrV (dt0 n) = n
 | m, 0, _ => by rw [dt0_zero]; exact ⟨fun c h => (List.not_mem_nil h).elim, rfl⟩
 | 0, n + 1, h => by omega
 | m + 1, n + 1, h => by
  have ih := dt0_G m ((n + 1) / 10) (by omega)
  rw [dt0, dif_neg (by omega)]
  have hd := dig_toNat (r := (((n + 1) % 10 : Nat) : Int)) (by omega)
  have hg := dig_G (r := (((n + 1) % 10 : Nat) : Int)) (by omega)
  refine ⟨fun x hx => ?_, ?_⟩
  ·rcases List.mem_append.1 hx with h1 | h1
   ·exact ih.1 x h1
   ·rw [List.mem_singleton.1 h1]; exact hg
  ·rw [nrV_snoc, ih.2]
   unfold stV
   unfold isG at hg
   rw [if_neg (by omega), if_neg (by omega), hd]
   omega
theorem dtx_G {n : Int} (h : 0 ≤ n) : (∀ c ∈ dtx n, isG c) ∧ nrV (dtx n) = n := by
 unfold dtx
 split
 ·rename_i e
  subst e
  exact ⟨fun x hx => by rw [List.mem_singleton.1 hx]; decide, by decide⟩
 ·have := dt0_G n.toNat n.toNat (Nat.le_refl _)
  exact ⟨this.1, by rw [this.2]; omega⟩
theorem rep_nr : ∀ k : Nat, (List.replicate k (48 : UInt8)).foldl stV 0 = 0
 | 0 => rfl
 | k + 1 => by
  rw [List.replicate_succ, List.foldl_cons, show stV 0 48 = 0 from by decide]
  exact rep_nr k
theorem pad_G {R q : Int} (hR : 0 ≤ R) : (∀ c ∈ padT (dtx R) q, isG c) ∧ nrV (padT (dtx R) q) = R := by
 have h := dtx_G hR
 unfold padT
 split
 ·refine ⟨fun c hc => ?_, ?_⟩
  ·rcases List.mem_append.1 hc with h1 | h1
   ·have : c = 48 := (List.mem_replicate.1 h1).2
    rw [this]; decide
   ·exact h.1 c h1
  ·unfold nrV zsT
   rw [List.foldl_append, rep_nr]
   exact h.2
 ·exact h
theorem stB_digs : ∀ (l : List UInt8) (p : Int × Bool), (∀ c ∈ l, isG c) → l.foldl stB p = (if p.2 = true then p.1 + l.length else p.1, p.2)
 | [], p, _ => by simp
 | c :: l, p, h => by
  have hc := h c (.head _)
  unfold isG at hc
  have e : stB p c = (if p.2 = true then p.1 + 1 else p.1, p.2) := by unfold stB; rw [if_neg (by omega), if_neg (by omega)]
  rw [List.foldl_cons, e, stB_digs l _ fun x hx => h x (.tail _ hx)]
  rcases p with ⟨x, b⟩
  cases b
  ·simp
  ·simp; omega
theorem stB_bd : ∀ (l : List UInt8) (p : Int × Bool), p.1 ≤ (l.foldl stB p).1 ∧ (l.foldl stB p).1 ≤ p.1 + l.length
 | [], p => by simp
 | c :: l, p => by
  have ih := stB_bd l (stB p c)
  have h1 : p.1 ≤ (stB p c).1 ∧ (stB p c).1 ≤ p.1 + 1 := by
   unfold stB
   split
   ·exact ⟨Int.le_refl _, by show p.1 ≤ p.1 + 1; omega⟩
   ·split
    ·omega
    ·split <;> (show p.1 ≤ _ ∧ _ ≤ p.1 + 1; omega)
  rw [List.foldl_cons, List.length_cons]
  omega
theorem near_read {d : Kd} {a R q : Int} (hR : 0 ≤ R) (hq : 0 ≤ q) : (∀ c ∈ sgT d a ++ fxT R q, (c.toNat : Int) = 45 ∨ (c.toNat : Int) = 46 ∨ isG c) ∧ nrV (sgT d a ++ fxT R q) = R ∧ (nrB (sgT d a ++ fxT R q)).1 = q ∧ 0 < (sgT d a ++ fxT R q).length ∧ ((((sgT d a ++ fxT R q).getD 0 0).toNat : Int) = 45 ↔ d.S ≤ a) := by
 have hp := pad_G (q := q) hR
 have hl : q < ((padT (dtx R) q).length : Int) := by
  have := dtx_pos hR
  unfold padT
  split
  ·have := zsT_len (q + 1 - ((dtx R).length : Int))
   rw [List.length_append]
   omega
  ·omega
 obtain ⟨ds, hds⟩ : ∃ ds, ds = padT (dtx R) q := ⟨_, rfl⟩
 have hfx : fxT R q = ptT ds (ds.length - q) := by unfold fxT; rw [hds]
 rw [← hds] at hp hl
 obtain ⟨n, hn⟩ : ∃ n : Nat, (ds.length : Int) - q = n := ⟨(ds.length - q).toNat, by omega⟩
 rw [hfx, hn]
 unfold ptT
 rw [Int.toNat_natCast]
 have hT : ∀ c ∈ ds.take n, isG c := fun c hc => hp.1 c (List.mem_of_mem_take hc)
 have hD : ∀ c ∈ ds.drop n, isG c := fun c hc => hp.1 c (List.mem_of_mem_drop hc)
 have hsB : (sgT d a).foldl stB (0, false) = (0, false) := by unfold sgT; split <;> rfl
 have hsV : (sgT d a).foldl stV 0 = 0 := by unfold sgT; split <;> rfl
 refine ⟨fun c hc => ?_, ?_, ?_, ?_, ?_⟩
 ·rcases List.mem_append.1 hc with h1 | h1
  ·left
   unfold sgT at h1
   split at h1
   ·rw [List.mem_singleton.1 h1]; rfl
   ·exact (List.not_mem_nil h1).elim
  ·right
   rcases List.mem_append.1 h1 with h2 | h2
   ·exact .inr (hT c h2)
   ·split at h2
    ·rcases List.mem_cons.1 h2 with h3 | h3
     ·left; rw [h3]; rfl
     ·exact .inr (hD c h3)
    ·exact (List.not_mem_nil h2).elim
 ·unfold nrV
  rw [List.foldl_append, hsV, List.foldl_append]
  have e := hp.2
  unfold nrV at e
  split
  ·rw [List.foldl_cons, show ∀ v, stV v 46 = v from fun v => if_pos (by decide), ← List.foldl_append, List.take_append_drop]
   exact e
  ·rw [List.take_of_length_le (by omega)]
   exact e
 ·unfold nrB
  rw [List.foldl_append, hsB, List.foldl_append, stB_digs _ _ hT, if_neg (by simp)]
  split
  ·rw [List.foldl_cons, show ∀ p, stB p 46 = (p.1, true) from fun p => if_pos (by decide), stB_digs _ _ hD]
   simp
   omega
  ·simp
   omega
 ·simp only [List.length_append, List.length_take]
  omega
 ·have hne : (ds.take n).getD 0 0 = ds.getD 0 0 := by
   simp [List.getD, List.getElem?_take, show 0 < n by omega]
  have h0 : isG (ds.getD 0 0) := by
   have hlt : 0 < ds.length := by omega
   have : ds.getD 0 0 = ds[0] := by simp [List.getD, hlt]
   rw [this]
   exact hp.1 _ (List.getElem_mem hlt)
  unfold sgT
  split
  ·rename_i h
   exact ⟨fun _ => h, fun _ => rfl⟩
  ·rename_i h
   refine ⟨fun h1 => ?_, fun h1 => absurd h1 h⟩
   exfalso
   rw [List.nil_append, List.getD_eq_getElem?_getD, List.getElem?_append_left (by rw [List.length_take]; omega), ← List.getD_eq_getElem?_getD, hne] at h1
   unfold isG at h0
   omega
theorem spl_inf {k a : Int} {d : Kd} (hk : kd k = some d) (ha : 0 ≤ a ∧ a < 2 * d.S) (hf : d.I ≤ a % d.S) : splF k a = (false, 0, 0, 32) := by
 unfold splF
 rw [ofk_ok hk (chk_some hk ha.2), if_pos hf]
theorem cmpI_le0 {a b : Int} : cmpI a b ≤ 0 ↔ a ≤ b := by unfold cmpI; (repeat' split) <;> omega
theorem printNearL (n b q : Int) (hn : -9223372036854775808 ≤ n ∧ n ≤ 9223372036854775807) (hb : 0 ≤ b ∧ b ≤ 18446744073709551615) (hq : -9223372036854775808 ≤ q ∧ q ≤ 9223372036854775807) (w : World) (hT : TabP w) :
  CallsV P 3 [.int .i64 n, .int .u64 b, .int .i64 q] w fun r w' => r = .bool true ∧ Grow w w' [] := by
 refine enterW Tryd.func3 rfl Tryd.ntmps3 rfl ?_
 have hw0 := St.start w
 obtain ⟨d, hk⟩ := kd_fit n
 have hbd := d.bd
 have hfa := fit_bd hk hb
 refine c_seq (c_region (l_assign rfl rfl rfl (l_nil (e_then ?_))))
 refine c_keep [0, 1, 2] (.cons rfl (.cons rfl (.cons rfl .nil))) ?_
 refine c_seq (c_region (l_move rfl rfl rfl ?_))
 refine l_bits rfl rfl rfl rfl rfl (and_i1 hn) ?_
 refine l_add rfl rfl rfl rfl (w_i64 (by omega)) ?_
 refine l_assign rfl rfl rfl (l_nil (e_then ?_))
 refine c_keep [1, 2, 7] (.cons rfl (.cons rfl (.cons rfl .nil))) ?_
 refine c_seq (c_region (l_move rfl rfl rfl (l_move rfl rfl rfl ?_)))
 refine l_callp rfl rfl Tryd.func5 rfl rfl (.cons rfl (.cons rfl .nil)) (fitL11 (9 + n % 2) b hb w) ?_
 refine l_assign rfl rfl rfl (l_nil (e_then ?_))
 refine c_keep [1, 2, 7] (.cons rfl (.cons rfl (.cons rfl .nil))) ?_
 refine c_seq (c_region ?_)
 obtain ⟨a, hae⟩ : ∃ x, x = (if 9 + n % 2 = 9 then b % 4294967296 else b) := ⟨_, rfl⟩
 refine l_turn (s := 1) (v' := .int .u64 a) rfl (by rw [hae]) ?_
 rw [← hae] at hfa
 have ha2 := hfa
 have hma := mod_S d ha2
 refine l_move rfl rfl rfl ?_
 refine l_call rfl rfl Tryd.func6 rfl rfl (.cons rfl (.cons rfl (.cons rfl .nil))) (withinK q 0 40 hq (by omega) w) ?_
 rintro _ _ ⟨⟨q2, rfl, hq0, hq1⟩, rfl⟩
 refine l_assign rfl rfl rfl (l_nil (e_then ?_))
 refine c_keep [1, 2, 7] (.cons rfl (.cons rfl (.cons rfl .nil))) ?_
 refine c_seq (c_region (l_move rfl rfl rfl (l_move rfl rfl rfl (l_move rfl rfl rfl ?_))))
 refine l_call rfl rfl Tryd.func7 rfl rfl (.cons rfl (.cons rfl (.cons rfl .nil))) (FixedP (9 + n % 2) a (by omega) q2 (by omega) w) ?_
 rintro _ w1 ⟨vs, e, t, rfl, hA, hG⟩
 have hw1 := hG _ _ _ _ hw0
 try clear hG hw0
 simp only [List.cons_append, List.nil_append] at hw1
 have hm0 := Int.emod_nonneg a (show d.S ≠ 0 by omega)
 have hasked := ask0 (q := q2) hk (show a < 2 * d.S by omega) ⟨hq0, hq1⟩
 obtain rfl : e = 0 := hA.1.trans hasked
 have htl := hA.len ha2.1
 obtain ⟨d', hd', _, htx⟩ := hA.2.2 rfl
 rw [hk] at hd'
 cases hd'
 have htl0 : 0 < t.length := by
  rw [htx]
  rcases Int.lt_or_le (a % d.S) d.I with h | h
  ·rw [wdT_fin h]
   have hrl := rn_len (d := d) (b := a % d.S) (e := q2) ⟨hm0, h⟩ (by omega)
   exact (near_read (d := d) (a := a) hrl.1 hq0).2.2.2.1
  ·rw [wdT_over (y := [48]) h]
   exact List.length_pos_iff.2 (wdT_ne (by simp))
 refine l_move rfl rfl rfl (l_extract rfl rfl rfl rfl (l_extract rfl rfl rfl rfl (l_assign rfl rfl rfl (l_assign rfl rfl rfl (l_nil ?_)))))
 refine e_then ?_
 refine c_keep [1, 2, 7, 8, 9] (.cons rfl (.cons rfl (.cons rfl (.cons rfl (.cons rfl .nil))))) ?_
 refine c_seq (c_region (l_move rfl rfl rfl (l_move rfl rfl rfl ?_)))
 refine l_call rfl rfl Tryd.func8 rfl rfl (.cons rfl (.cons rfl .nil)) (splitB (9 + n % 2) a (by omega) w1) ?_
 rintro _ w2 ⟨rfl, hG⟩
 have hw2 := hG _ _ _ _ hw1
 try clear hG hw1
 simp only [List.cons_append, List.nil_append] at hw2
 refine l_move rfl rfl rfl (l_extract rfl rfl rfl rfl (l_extract rfl rfl rfl rfl ?_))
 refine l_alloc hw2 ta30 rfl rfl (fun b5_6 w3 hw3 => ?_)
 try clear hw2
 refine l_store_blks hw3 .head (.zero (.zero (.zero .nil))) rfl tz30 rfl rfl (by first | (simp [Value.oneCell']; done) | (intro u hu; simp only [List.mem_cons, List.not_mem_nil, or_false] at hu; rcases hu with rfl | rfl | rfl <;> first | rfl | assumption)) (fun w4 hw4 => ?_)
 try clear hw3
 refine l_assign rfl rfl rfl (l_nil (e_then ?_))
 refine c_keep [2, 8, 9, 10, 11] (.cons rfl (.cons rfl (.cons rfl (.cons rfl (.cons rfl .nil))))) ?_
 refine c_seq (c_seq (c_region (l_move rfl rfl rfl ?_)))
 refine l_callp rfl rfl Tryd.func9 rfl rfl (.cons rfl .nil) (numL11 _ _) ?_
 refine l_neq rfl rfl rfl rfl ?_
 refine l_turn (s := 42) (v' := .bool false) rfl (by simp) ?_
 refine l_move rfl rfl rfl (l_move rfl rfl rfl ?_)
 refine v_lenb rfl rfl Tryd.underlying25 rfl (by first | exact hw4.ibl mem0 | exact hw4.io mem1 | assumption) ?_
 refine l_eql rfl rfl rfl rfl ?_
 refine l_turn (s := 46) (v' := .bool false) rfl (by rw [decide_eq_false (by omega)]) ?_
 refine l_pick_f rfl rfl rfl rfl ?_
 refine l_turn (s := 47) (v' := .bool false) rfl (by rfl) ?_
 refine l_nil (e_then ?_)
 refine c_keep [2, 8, 10, 11, 47] (.cons rfl (.cons rfl (.cons rfl (.cons rfl (.cons rfl .nil))))) ?_
 refine c_cond_f rfl rfl ?_
 refine c_skip (e_then ?_)
 refine c_keep [2, 8, 10, 11] (.cons rfl (.cons rfl (.cons rfl (.cons rfl .nil)))) ?_
 refine c_seq (c_seq (c_region (l_move rfl rfl rfl ?_)))
 refine l_callp rfl rfl Tryd.func9 rfl rfl (.cons rfl .nil) (numL11 _ _) ?_
 refine l_neq rfl rfl rfl rfl ?_
 refine l_nil (e_then ?_)
 refine c_keep [2, 8, 10, 50] (.cons rfl (.cons rfl (.cons rfl (.cons rfl .nil)))) ?_
 first | refine c_cond rfl (fun hc1 => ?_) (fun hc1 => ?_) | refine c_condb rfl (fun hc1 => ?_) (fun hc1 => ?_)
 ·skip
  have hinf : d.I ≤ a % d.S := by
   rcases Int.lt_or_le (a % d.S) d.I with h | h
   ·exfalso
    rw [spl_any hk ha2 h] at hc1
    exact hc1 rfl
   ·exact h
  have hword : (t = [110, 97, 110] ∨ t = [105, 110, 102]) ∨ t = [45, 105, 110, 102] := by
   rw [htx]
   unfold wdT
   split
   ·exact .inl (.inl rfl)
   ·rw [if_pos (show a % d.S = d.I by omega)]
    unfold sgT
    split
    ·exact .inr rfl
    ·exact .inl (.inr rfl)
  refine c_seq (c_region (l_move rfl rfl rfl ?_))
  refine v_tostr (l := t) rfl rfl Tryd.underlying25 Tryd.underlying5 Tryd.underlying9 rfl (by first | exact hw4.ibl mem0 | exact hw4.io mem1 | assumption) ?_
  refine l_eqls rfl rfl rfl rfl ?_
  refine l_move rfl rfl rfl ?_
  apply l_or (q := t = [105, 110, 102]) 3 [8] rfl rfl (.cons rfl (.cons rfl .nil)) rfl rfl (fun _ => rfl) rfl rfl rfl
  ·intro hg9_4
   refine l_move rfl rfl rfl ?_
   refine v_tostr (l := t) rfl rfl Tryd.underlying25 Tryd.underlying5 Tryd.underlying9 rfl (by first | exact hw4.ibl mem0 | exact hw4.io mem1 | assumption) ?_
   refine l_eqls rfl rfl rfl rfl ?_
   refine l_nil ?_
   exact e_stays rfl (.cons rfl (congrArg Value.bool (decide_eq_false hg9_4).symm) (.cons rfl rfl .nil))
   all_goals infer_instance
  refine l_move rfl rfl rfl ?_
  apply l_or (q := t = [45, 105, 110, 102]) 3 [] rfl rfl (.cons rfl .nil) rfl rfl (fun _ => rfl) rfl rfl rfl
  ·intro hg9_9
   refine l_move rfl rfl rfl ?_
   refine v_tostr (l := t) rfl rfl Tryd.underlying25 Tryd.underlying5 Tryd.underlying9 rfl (by first | exact hw4.ibl mem0 | exact hw4.io mem1 | assumption) ?_
   refine l_eqls rfl rfl rfl rfl ?_
   refine l_nil ?_
   exact e_stays rfl (.cons rfl (congrArg Value.bool (decide_eq_false hg9_9).symm) .nil)
   all_goals infer_instance
  refine l_turn (s := 63) (v' := .bool true) rfl (by rw [decide_eq_true hword]) ?_
  refine l_move rfl rfl rfl ?_
  refine l_call rfl rfl Tryd.func10 rfl rfl .nil (wakesL11 w4 (tab_keep hT (fun k hk hf => hw4.ext.block k hk hf))) ?_
  rintro _ w5 ⟨rfl, hG⟩
  have hw5 := hG _ _ _ _ hw4
  try clear hG hw4
  simp only [List.cons_append, List.nil_append] at hw5
  refine l_turn (s := 65) (v' := .bool true) rfl (by rfl) ?_
  refine l_pick_t rfl rfl rfl rfl ?_
  refine l_assign rfl rfl rfl (l_nil (e_then ?_))
  refine c_keep [6] (.cons rfl .nil) ?_
  refine c_ret ?_
  refine e_then_ret ?_
  refine e_done1 Tryd.results3 rfl ?_
  refine ⟨_, rfl, ?_⟩
  have hw6 := St.del (.tail .head) hw5
  try clear hw5
  have hw7 := St.del .head hw6
  try clear hw6
  exact ⟨rfl, hw7.grows⟩
 ·skip
  have hfin : a % d.S < d.I := by
   rcases Int.lt_or_le (a % d.S) d.I with h | h
   ·exact h
   ·exfalso
    rw [spl_inf hk ha2 h] at hc1
    exact hc1 (by decide)
  have hspl := spl_any hk ha2 hfin
  have hss := spl_bd (d := d) (b := a % d.S) ⟨hm0, hfin⟩
  have hxy := fX_blen (d := d) (b := a % d.S) ⟨hm0, hfin⟩
  have hrl := rn_len (d := d) (b := a % d.S) (e := q2) ⟨hm0, hfin⟩ (by omega)
  rw [wdT_fin hfin] at htx
  have hnr := near_read (d := d) (a := a) hrl.1 hq0
  rw [← htx] at hnr
  obtain ⟨hok, hV, hB, _, h45⟩ := hnr
  refine c_skip (e_then ?_)
  refine c_keep [2, 8, 10] (.cons rfl (.cons rfl (.cons rfl .nil))) ?_
  refine c_seq (c_seq ?_)
  have hw8 := hw4.drewn
  try clear hw4
  obtain ⟨As10, cs10, hvs10⟩ := IV.lies (hw8.io (.tail _ (.head _))) (by simp; omega)
  refine c_any (n := 7) [false, false, false, false, false, false, false] (fun wS => IB wS vs t ∧ (As.blk b5_6 30 [.bool (splF (9 + n % 2) a).1, .int .u64 (splF (9 + n % 2) a).2.1, .int .i64 (splF (9 + n % 2) a).2.2.1]).ok wS) (by kernel_rfl) rfl rfl ?_
  apply a_take (L' := [true, false, false, false, false, false, false]) 0 rfl (by kernel_rfl) (by kernel_rfl) (by kernel_rfl) rfl rfl rfl rfl rfl (⟨hw8.io mem1, hw8.ok mem0⟩)
  ·intro wS sS
   refine l_move rfl rfl rfl (l_nil ?_)
   exact e_got rfl
  apply a_take (L' := [true, true, false, false, false, false, false]) 1 rfl (by kernel_rfl) (by kernel_rfl) (by kernel_rfl) rfl rfl rfl rfl rfl (⟨hw8.io mem1, hw8.ok mem0⟩)
  ·intro wS sS
   refine v_addrx (j := 0) rfl rfl Tryd.underlying25 tz5 rfl rfl hvs10 (by first | rfl | omega) (by first | omega | (simp; done) | (simp; omega)) ?_
   refine l_nil ?_
   exact e_got rfl
  apply a_take (L' := [true, true, true, false, false, false, false]) 2 rfl (by kernel_rfl) (by kernel_rfl) (by kernel_rfl) rfl rfl rfl rfl rfl (⟨hw8.io mem1, hw8.ok mem0⟩)
  ·intro wS sS
   refine v_loadb rfl rfl Tryd.underlying5 rfl hvs10 (by first | exact sS.1 | exact hw8.ibl mem0 | exact hw8.io mem1 | assumption) (by first | omega | (simp; done) | (simp; omega)) (fun hb10_2 => ?_)
   refine l_nil ?_
   exact e_got rfl
  apply a_take (L' := [true, true, true, true, false, false, false]) 3 rfl (by kernel_rfl) (by kernel_rfl) (by kernel_rfl) rfl rfl rfl rfl rfl (⟨hw8.io mem1, hw8.ok mem0⟩)
  ·intro wS sS
   refine l_eql rfl rfl rfl rfl ?_
   refine l_nil ?_
   exact e_got rfl
  apply a_take (L' := [true, true, true, true, true, false, false]) 4 rfl (by kernel_rfl) (by kernel_rfl) (by kernel_rfl) rfl rfl rfl rfl rfl (⟨hw8.io mem1, hw8.ok mem0⟩)
  ·intro wS sS
   refine l_field fo30_0 rfl rfl rfl (l_nil ?_)
   exact e_got rfl
  apply a_take (L' := [true, true, true, true, true, true, false]) 5 rfl (by kernel_rfl) (by kernel_rfl) (by kernel_rfl) rfl rfl rfl rfl rfl (⟨hw8.io mem1, hw8.ok mem0⟩)
  ·intro wS sS
   refine l_load_blk (blk_st sS.2) mem0 rfl rfl Tryd.underlying4 rfl rfl rfl ?_
   refine l_nil ?_
   exact e_got rfl
  apply a_take (L' := [true, true, true, true, true, true, true]) 6 rfl (by kernel_rfl) (by kernel_rfl) (by kernel_rfl) rfl rfl rfl rfl rfl (⟨hw8.io mem1, hw8.ok mem0⟩)
  ·intro wS sS
   refine l_neqb Tryd.underlying4 rfl rfl rfl rfl ?_
   refine l_turn (s := 73) (v' := .bool false) rfl (by rw [hspl, show decide (((t.getD 0 0).toNat : Int) = 45) = decide (d.S ≤ a) from decide_eq_decide.2 h45]; simp) ?_
   refine l_nil ?_
   exact e_got rfl
  refine a_done (by kernel_rfl) ?_
  refine e_then ?_
  refine c_keep [2, 8, 10, 73] (.cons rfl (.cons rfl (.cons rfl (.cons rfl .nil)))) ?_
  refine c_cond_f rfl rfl ?_
  refine c_skip (e_then ?_)
  refine c_keep [2, 8, 10] (.cons rfl (.cons rfl (.cons rfl .nil))) ?_
  refine c_seq (c_region (l_assign rfl rfl rfl (l_nil (e_then (c_seq ?_)))))
  refine c_region (l_assign rfl rfl rfl (l_assign rfl rfl rfl (l_nil (e_then (c_seq ?_)))))
  refine c_seq (c_region (l_assign rfl rfl rfl (l_nil (e_then (c_block ?_)))))
  refine c_loopk (ι := Nat × Value × List Int) (fun (z0 : Nat × Value × List Int) => match z0 with | ⟨i, vv, lv⟩ => t.length - i) (fun (z0 : Nat × Value × List Int) (w' : World) => match z0 with | ⟨i, vv, lv⟩ => St w w.heap.size None' ([As.ri 3 .i64 vv lv, As.blk b5_6 30 [.bool (splF (9 + n % 2) a).1, .int .u64 (splF (9 + n % 2) a).2.1, .int .i64 (splF (9 + n % 2) a).2.2.1], As.rb 5 vs t]) w' ∧ i ≤ t.length ∧ R16 lv (nrV (t.take i))) (fun (z0 : Nat × Value × List Int) => match z0 with | ⟨i, vv, lv⟩ => [(12, vv), (13, .int .i64 (nrB (t.take i)).1), (14, .bool (nrB (t.take i)).2), (15, .int .i64 (i : Int))]) [2, 8, 10] (0, .slice none 0 0, []) ?_ (.cons rfl (.cons rfl (.cons rfl .nil))) ?_ ?_
  ·exact ⟨hw8.nil 3, by omega, Ma.Cn.nil⟩
  ·exact (.cons rfl (by first | rfl | (refine congrArg (Value.int _) ?_; omega)) (.cons rfl (by first | rfl | (refine congrArg (Value.int _) ?_; omega)) (.cons rfl (by first | rfl | (refine congrArg (Value.int _) ?_; omega)) (.cons rfl (by first | rfl | (refine congrArg (Value.int _) ?_; omega)) .nil))))
  rintro ⟨i, vv, lv⟩ w9 ⟨hw9, hi, hRv⟩
  show RunC P _ _ _ (_ :: _) _
  refine c_seq (c_seq (c_region (l_move rfl rfl rfl (l_move rfl rfl rfl ?_))))
  refine v_lenb rfl rfl Tryd.underlying25 rfl (by first | exact hw9.io mem0 | exact hw9.ibl mem1 | exact hw9.io mem2 | assumption) ?_
  refine l_lss rfl rfl rfl rfl ?_
  refine l_nil (e_then ?_)
  refine c_keep [2, 8, 10, 12, 13, 14, 15, 77] (.cons rfl (.cons rfl (.cons rfl (.cons rfl (.cons rfl (.cons rfl (.cons rfl (.cons rfl .nil)))))))) ?_
  first | refine c_cond rfl (fun hc3 => ?_) (fun hc3 => ?_) | refine c_condb rfl (fun hc3 => ?_) (fun hc3 => ?_)
  ·skip
   refine c_skip (e_then ?_)
   refine c_keep [2, 8, 10, 12, 13, 14, 15] (.cons rfl (.cons rfl (.cons rfl (.cons rfl (.cons rfl (.cons rfl (.cons rfl .nil))))))) ?_
   refine c_seq (c_block (c_block (c_seq (c_region ?_))))
   have hbb : 0 ≤ (nrB (t.take i)).1 ∧ (nrB (t.take i)).1 ≤ 0 + ((t.take i).length : Int) := stB_bd (t.take i) (0, false)
   have hlt : i < t.length := by omega
   have hci := hok (t.getD i 0) (by rw [show t.getD i 0 = t[i] from by simp [List.getD, hlt]]; exact List.getElem_mem hlt)
   unfold isG at hci
   have hvb := nrV_bd (l := t.take i) (fun c hc => hok c (List.mem_of_mem_take hc))
   have hvb2 := Ma.blen_mono hvb.1 (Int.le_of_lt hvb.2)
   have hb10 := blen_10 (t.take i).length
   have htkl : (t.take i).length ≤ 2000 := by rw [List.length_take]; omega
   have hllv := hRv.len (k := 8010) (by omega)
   refine l_move rfl rfl rfl (l_move rfl rfl rfl ?_)
   refine v_getbr (j := i) rfl rfl rfl rfl Tryd.underlying25 tz5 Tryd.underlying5 rfl rfl (by first | exact hw9.io mem0 | exact hw9.ibl mem1 | exact hw9.io mem2 | assumption) rfl (by omega) (by first | omega | (simp; done) | (simp; omega)) (fun hb17_2 => ?_)
   refine l_eql rfl rfl rfl rfl ?_
   refine l_assign rfl rfl rfl (l_nil (e_then ?_))
   refine c_keep [2, 8, 10, 12, 13, 14, 15, 80] (.cons rfl (.cons rfl (.cons rfl (.cons rfl (.cons rfl (.cons rfl (.cons rfl (.cons rfl .nil)))))))) ?_
   first | refine c_cond rfl (fun hc4 => ?_) (fun hc4 => ?_) | refine c_condb rfl (fun hc4 => ?_) (fun hc4 => ?_)
   ·skip
    refine c_region (l_assign rfl rfl rfl (l_nil ?_))
    refine e_blk ?_
    refine e_blk ?_
    refine e_then ?_
    refine c_keep [2, 8, 10, 12, 13, 14, 15] (.cons rfl (.cons rfl (.cons rfl (.cons rfl (.cons rfl (.cons rfl (.cons rfl .nil))))))) ?_
    refine c_region (l_move rfl rfl rfl ?_)
    refine l_add rfl rfl rfl rfl (w_i64 (by omega)) ?_
    refine l_assign rfl rfl rfl (l_nil ?_)
    have htk := take_snoc (l := t) (i := i) (by omega)
    have hsv : nrV (t.take (i + 1)) = nrV (t.take i) := by rw [htk, nrV_snoc]; unfold stV; rw [if_pos hc4]
    have hsb : nrB (t.take (i + 1)) = ((nrB (t.take i)).1, true) := by rw [htk, nrB_snoc]; unfold stB; rw [if_pos hc4]
    refine e_againk (i := (i, vv, lv)) (i + 1, vv, lv) ?_ ?_ (.cons rfl (.cons rfl (.cons rfl .nil))) ?_
    ·first | omega | (simp; omega)
    ·exact ⟨hw9, by omega, by rw [hsv]; exact hRv⟩
    ·exact (.cons rfl (by first | rfl | (refine congrArg (Value.int _) ?_; omega)) (.cons rfl (by rw [hsb]) (.cons rfl (by rw [hsb]) (.cons rfl (by first | rfl | (refine congrArg (Value.int _) ?_; omega)) .nil))))
   ·skip
    refine c_seq (c_region (l_move rfl rfl rfl (l_move rfl rfl rfl ?_)))
    refine v_getbr (j := i) rfl rfl rfl rfl Tryd.underlying25 tz5 Tryd.underlying5 rfl rfl (by first | exact hw9.io mem0 | exact hw9.ibl mem1 | exact hw9.io mem2 | assumption) rfl (by omega) (by first | omega | (simp; done) | (simp; omega)) (fun hb19_2 => ?_)
    refine l_neq rfl rfl rfl rfl ?_
    refine l_assign rfl rfl rfl (l_nil (e_then ?_))
    refine c_keep [2, 8, 10, 12, 13, 14, 15, 86] (.cons rfl (.cons rfl (.cons rfl (.cons rfl (.cons rfl (.cons rfl (.cons rfl (.cons rfl .nil)))))))) ?_
    first | refine c_cond rfl (fun hc5 => ?_) (fun hc5 => ?_) | refine c_condb rfl (fun hc5 => ?_) (fun hc5 => ?_)
    ·skip
     refine c_seq (c_seq (c_region (l_move rfl rfl rfl (l_move rfl rfl rfl ?_))))
     refine v_getbr (j := i) rfl rfl rfl rfl Tryd.underlying25 tz5 Tryd.underlying5 rfl rfl (by first | exact hw9.io mem0 | exact hw9.ibl mem1 | exact hw9.io mem2 | assumption) rfl (by omega) (by first | omega | (simp; done) | (simp; omega)) (fun hb20_2 => ?_)
     refine l_lss rfl rfl rfl rfl ?_
     refine l_move rfl rfl rfl ?_
     apply l_or 5 [2, 8, 10, 12, 13, 14, 15] rfl rfl (.cons rfl (.cons rfl (.cons rfl (.cons rfl (.cons rfl (.cons rfl (.cons rfl (.cons rfl .nil)))))))) rfl rfl (fun _ => rfl) rfl rfl rfl
     ·intro hg20_6
      refine l_move rfl rfl rfl (l_move rfl rfl rfl ?_)
      refine v_getbr (j := i) rfl rfl rfl rfl Tryd.underlying25 tz5 Tryd.underlying5 rfl rfl (by first | exact hw9.io mem0 | exact hw9.ibl mem1 | exact hw9.io mem2 | assumption) rfl (by omega) (by first | omega | (simp; done) | (simp; omega)) (fun hb20_8 => ?_)
      refine l_gtr rfl rfl rfl rfl ?_
      refine l_nil ?_
      exact e_stays rfl (.cons rfl (congrArg Value.bool (decide_eq_false hg20_6).symm) (.cons rfl rfl (.cons rfl rfl (.cons rfl rfl (.cons rfl rfl (.cons rfl rfl (.cons rfl rfl (.cons rfl rfl .nil))))))))
      all_goals infer_instance
     refine l_nil (e_then ?_)
     refine c_keep [2, 8, 10, 12, 13, 14, 15, 103] (.cons rfl (.cons rfl (.cons rfl (.cons rfl (.cons rfl (.cons rfl (.cons rfl (.cons rfl .nil)))))))) ?_
     first | refine c_cond rfl (fun hc6 => ?_) (fun hc6 => ?_) | refine c_condb rfl (fun hc6 => ?_) (fun hc6 => ?_)
     ·skip
      exact absurd hc6 (by omega)
     ·skip
      refine c_skip (e_then ?_)
      refine c_keep [2, 8, 10, 12, 13, 14, 15] (.cons rfl (.cons rfl (.cons rfl (.cons rfl (.cons rfl (.cons rfl (.cons rfl .nil))))))) ?_
      refine c_cutk (ι := Value × List Int) (fun (z0 : Value × List Int) (w' : World) => match z0 with | ⟨vn, ln⟩ => St w w.heap.size None' ([As.ri 3 .i64 vn ln, As.blk b5_6 30 [.bool (splF (9 + n % 2) a).1, .int .u64 (splF (9 + n % 2) a).2.1, .int .i64 (splF (9 + n % 2) a).2.2.1], As.rb 5 vs t]) w' ∧ R16 ln (nrV (t.take i) * 10 + (((t.getD i 0).toNat : Int) - 48))) (fun (z0 : Value × List Int) => match z0 with | ⟨vn, ln⟩ => [(12, vn)]) [2, 8, 10, 13, 14, 15] (.cons rfl (.cons rfl (.cons rfl (.cons rfl (.cons rfl (.cons rfl .nil)))))) ?_ ?_
      ·skip
       have hw10 := hw9.drewn
       try clear hw9
       obtain ⟨As22, cs22, hvs22⟩ := IV.lies (hw10.io (.tail _ (.tail _ (.head _)))) (by simp; omega)
       refine c_any (n := 13) [false, false, false, false, false, false, false, false, false, false, false, false, false] (fun wS => IB wS vs t) (by kernel_rfl) rfl rfl ?_
       apply a_take (L' := [true, false, false, false, false, false, false, false, false, false, false, false, false]) 0 rfl (by kernel_rfl) (by kernel_rfl) (by kernel_rfl) rfl rfl rfl rfl rfl (hw10.io mem2)
       ·intro wS sS
        refine l_move rfl rfl rfl (l_nil ?_)
        exact e_got rfl
       apply a_take (L' := [true, false, false, true, false, false, false, false, false, false, false, false, false]) 3 rfl (by kernel_rfl) (by kernel_rfl) (by kernel_rfl) rfl rfl rfl rfl rfl (hw10.io mem2)
       ·intro wS sS
        refine l_move rfl rfl rfl (l_nil ?_)
        exact e_got rfl
       apply a_take (L' := [true, false, false, true, true, false, false, false, false, false, false, false, false]) 4 rfl (by kernel_rfl) (by kernel_rfl) (by kernel_rfl) rfl rfl rfl rfl rfl (hw10.io mem2)
       ·intro wS sS
        refine l_move rfl rfl rfl (l_nil ?_)
        exact e_got rfl
       apply a_take (L' := [true, false, false, true, true, true, false, false, false, false, false, false, false]) 5 rfl (by kernel_rfl) (by kernel_rfl) (by kernel_rfl) rfl rfl rfl rfl rfl (hw10.io mem2)
       ·intro wS sS
        refine v_addrx (j := i) rfl rfl Tryd.underlying25 tz5 rfl rfl hvs22 (by first | rfl | omega) (by first | omega | (simp; done) | (simp; omega)) ?_
        refine l_nil ?_
        exact e_got rfl
       apply a_take (L' := [true, false, false, true, true, true, true, false, false, false, false, false, false]) 6 rfl (by kernel_rfl) (by kernel_rfl) (by kernel_rfl) rfl rfl rfl rfl rfl (hw10.io mem2)
       ·intro wS sS
        refine v_loadb rfl rfl Tryd.underlying5 rfl hvs22 (by first | exact sS | exact hw10.io mem0 | exact hw10.ibl mem1 | exact hw10.io mem2 | assumption) (by first | omega | (simp; done) | (simp; omega)) (fun hb22_6 => ?_)
        refine l_nil ?_
        exact e_got rfl
       apply a_take (L' := [true, false, false, true, true, true, true, true, false, false, false, false, false]) 7 rfl (by kernel_rfl) (by kernel_rfl) (by kernel_rfl) rfl rfl rfl rfl rfl (hw10.io mem2)
       ·intro wS sS
        refine l_sub rfl rfl rfl rfl (w_u8 (by omega)) ?_
        refine l_nil ?_
        exact e_got rfl
       apply a_take (L' := [true, false, false, true, true, true, true, true, true, false, false, false, false]) 8 rfl (by kernel_rfl) (by kernel_rfl) (by kernel_rfl) rfl rfl rfl rfl rfl (hw10.io mem2)
       ·intro wS sS
        refine l_conv rfl rfl Tryd.underlying5 Tryd.underlying22 rfl (w_u64 (by omega)) ?_
        refine l_nil ?_
        exact e_got rfl
       refine a_two (L' := [true, true, false, true, true, true, true, true, true, false, false, false, false]) (L'' := [true, false, false, true, true, true, true, true, true, true, false, false, false]) 1 9 (by kernel_rfl) rfl rfl rfl rfl ?_ ?_
       ·skip
        refine v_lit hw10 rfl rfl Tryd.underlying35 ti3 rfl (.cons rfl (by first | rfl | assumption) .nil) rfl rfl rfl (fun b22_1 w11 hw11 => ?_)
        try clear hw10
        refine l_nil ?_
        refine e_any (hw11.io mem3) ?_
        refine a_two (L' := [true, true, true, true, true, true, true, true, true, false, false, false, false]) (L'' := [true, true, false, true, true, true, true, true, true, true, false, false, false]) 2 9 (by kernel_rfl) rfl rfl rfl rfl ?_ ?_
        ·skip
         refine l_call rfl rfl Tryd.func12 rfl rfl (.cons rfl (.cons rfl .nil)) (prodR vv _ lv [10] _ 10 hRv R16.ten (by omega) (by simp) w11 (hw11.io mem1) (hw11.ibl mem0)) ?_
         rintro vp w12 ⟨_, lp, rfl, hRp, hG⟩
         have hw12 := hG _ _ _ _ hw11
         try clear hG hw11
         simp only [List.cons_append, List.nil_append] at hw12
         have hllp := hRv.len_mul R16.ten hRp
         simp only [List.length_cons, List.length_nil] at hllp
         refine l_nil ?_
         refine e_any (hw12.io mem4) ?_
         refine a_one (L' := [true, true, true, true, true, true, true, true, true, true, false, false, false]) 9 (by kernel_rfl) rfl rfl ?_
         refine v_lit hw12 rfl rfl Tryd.underlying62 ti22 rfl (.cons rfl (by first | rfl | assumption) .nil) rfl rfl rfl (fun b22_9 w13 hw13 => ?_)
         try clear hw12
         refine l_nil ?_
         refine e_any (hw13.io mem5) ?_
         refine a_one (L' := [true, true, true, true, true, true, true, true, true, true, true, false, false]) 10 (by kernel_rfl) rfl rfl ?_
         refine l_call rfl rfl Tryd.func13 rfl rfl (.cons rfl .nil) (numR _ [((t.getD i 0).toNat : Int) - 48] (U.one (by omega)) (by simp) w13 (hw13.ibl mem0)) ?_
         rintro vm w14 ⟨_, lm, rfl, hRm, hG⟩
         have hw14 := hG _ _ _ _ hw13
         try clear hG hw13
         simp only [List.cons_append, List.nil_append] at hw14
         have hRm2 : R16 lm (((t.getD i 0).toNat : Int) - 48) := by have := hRm; rw [show Ma.vb 18446744073709551616 [((t.getD i 0).toNat : Int) - 48] = ((t.getD i 0).toNat : Int) - 48 from nv_one _] at this; exact this
         have hllm := R16.len_num (U.one (x := ((t.getD i 0).toNat : Int) - 48) (by omega)) hRm
         simp only [List.length_cons, List.length_nil] at hllm
         refine l_nil ?_
         refine e_any (hw14.io mem6) ?_
         refine a_one (L' := [true, true, true, true, true, true, true, true, true, true, true, true, false]) 11 (by kernel_rfl) rfl rfl ?_
         refine l_call rfl rfl Tryd.func11 rfl rfl (.cons rfl (.cons rfl .nil)) (sumR vp vm lp lm _ _ hRp hRm2 (by omega) (by omega) w14 (hw14.io mem2) (hw14.io mem0)) ?_
         rintro vu w15 ⟨_, lu, rfl, hRu, hG⟩
         have hw15 := hG _ _ _ _ hw14
         try clear hG hw14
         simp only [List.cons_append, List.nil_append] at hw15
         refine l_nil ?_
         refine e_any (hw15.io mem7) ?_
         apply a_take (L' := [true, true, true, true, true, true, true, true, true, true, true, true, true]) 12 rfl (by kernel_rfl) (by kernel_rfl) (by kernel_rfl) rfl rfl rfl rfl rfl (hw15.io mem7)
         ·intro wS sS
          refine l_assign rfl rfl rfl (l_nil ?_)
          exact e_got rfl
         refine a_done (by kernel_rfl) ?_
         have hw16 := St.frontL (l := [_, _, _, _, _, _, _]) hw15
         simp only [List.cons_append, List.nil_append] at hw16
         try clear hw15
         have hw17 := St.frontL (l := [_, _, _, _, _, _, _]) hw16
         simp only [List.cons_append, List.nil_append] at hw17
         try clear hw16
         have hw18 := St.frontL (l := [_, _]) hw17
         simp only [List.cons_append, List.nil_append] at hw18
         try clear hw17
         have hw19 := St.del (.tail (.tail (.tail (.tail (.tail (.tail (.tail .head))))))) hw18
         try clear hw18
         have hw20 := St.del (.tail (.tail (.tail (.tail (.tail (.tail .head)))))) hw19
         try clear hw19
         have hw21 := St.del (.tail (.tail (.tail (.tail (.tail .head))))) hw20
         try clear hw20
         have hw22 := St.del (.tail (.tail (.tail (.tail .head)))) hw21
         try clear hw21
         have hw23 := St.del (.tail (.tail (.tail .head))) hw22
         try clear hw22
         refine e_meetk (vu, lu) ?_ (.cons rfl (.cons rfl (.cons rfl (.cons rfl (.cons rfl (.cons rfl .nil)))))) ?_
         ·exact ⟨hw23, hRu⟩
         ·exact (.cons rfl (by first | rfl | (refine congrArg (Value.int _) ?_; omega)) .nil)
        ·skip
         refine v_lit hw11 rfl rfl Tryd.underlying62 ti22 rfl (.cons rfl (by first | rfl | assumption) .nil) rfl rfl rfl (fun b22_9 w24 hw24 => ?_)
         try clear hw11
         refine l_nil ?_
         refine e_any (hw24.io mem4) ?_
         refine a_one (L' := [true, true, true, true, true, true, true, true, true, true, false, false, false]) 2 (by kernel_rfl) rfl rfl ?_
         refine l_call rfl rfl Tryd.func12 rfl rfl (.cons rfl (.cons rfl .nil)) (prodR vv _ lv [10] _ 10 hRv R16.ten (by omega) (by simp) w24 (hw24.io mem2) (hw24.ibl mem1)) ?_
         rintro vp w25 ⟨_, lp, rfl, hRp, hG⟩
         have hw25 := hG _ _ _ _ hw24
         try clear hG hw24
         simp only [List.cons_append, List.nil_append] at hw25
         have hllp := hRv.len_mul R16.ten hRp
         simp only [List.length_cons, List.length_nil] at hllp
         refine l_nil ?_
         refine e_any (hw25.io mem5) ?_
         refine a_one (L' := [true, true, true, true, true, true, true, true, true, true, true, false, false]) 10 (by kernel_rfl) rfl rfl ?_
         refine l_call rfl rfl Tryd.func13 rfl rfl (.cons rfl .nil) (numR _ [((t.getD i 0).toNat : Int) - 48] (U.one (by omega)) (by simp) w25 (hw25.ibl mem1)) ?_
         rintro vm w26 ⟨_, lm, rfl, hRm, hG⟩
         have hw26 := hG _ _ _ _ hw25
         try clear hG hw25
         simp only [List.cons_append, List.nil_append] at hw26
         have hRm2 : R16 lm (((t.getD i 0).toNat : Int) - 48) := by have := hRm; rw [show Ma.vb 18446744073709551616 [((t.getD i 0).toNat : Int) - 48] = ((t.getD i 0).toNat : Int) - 48 from nv_one _] at this; exact this
         have hllm := R16.len_num (U.one (x := ((t.getD i 0).toNat : Int) - 48) (by omega)) hRm
         simp only [List.length_cons, List.length_nil] at hllm
         refine l_nil ?_
         refine e_any (hw26.io mem6) ?_
         refine a_one (L' := [true, true, true, true, true, true, true, true, true, true, true, true, false]) 11 (by kernel_rfl) rfl rfl ?_
         refine l_call rfl rfl Tryd.func11 rfl rfl (.cons rfl (.cons rfl .nil)) (sumR vp vm lp lm _ _ hRp hRm2 (by omega) (by omega) w26 (hw26.io mem1) (hw26.io mem0)) ?_
         rintro vu w27 ⟨_, lu, rfl, hRu, hG⟩
         have hw27 := hG _ _ _ _ hw26
         try clear hG hw26
         simp only [List.cons_append, List.nil_append] at hw27
         refine l_nil ?_
         refine e_any (hw27.io mem7) ?_
         apply a_take (L' := [true, true, true, true, true, true, true, true, true, true, true, true, true]) 12 rfl (by kernel_rfl) (by kernel_rfl) (by kernel_rfl) rfl rfl rfl rfl rfl (hw27.io mem7)
         ·intro wS sS
          refine l_assign rfl rfl rfl (l_nil ?_)
          exact e_got rfl
         refine a_done (by kernel_rfl) ?_
         have hw28 := St.frontL (l := [_, _, _, _, _, _, _]) hw27
         simp only [List.cons_append, List.nil_append] at hw28
         try clear hw27
         have hw29 := St.frontL (l := [_, _, _, _, _, _, _]) hw28
         simp only [List.cons_append, List.nil_append] at hw29
         try clear hw28
         have hw30 := St.frontL (l := [_, _]) hw29
         simp only [List.cons_append, List.nil_append] at hw30
         try clear hw29
         have hw31 := St.del (.tail (.tail (.tail (.tail (.tail (.tail (.tail .head))))))) hw30
         try clear hw30
         have hw32 := St.del (.tail (.tail (.tail (.tail (.tail (.tail .head)))))) hw31
         try clear hw31
         have hw33 := St.del (.tail (.tail (.tail (.tail (.tail .head))))) hw32
         try clear hw32
         have hw34 := St.del (.tail (.tail (.tail (.tail .head)))) hw33
         try clear hw33
         have hw35 := St.del (.tail (.tail (.tail .head))) hw34
         try clear hw34
         refine e_meetk (vu, lu) ?_ (.cons rfl (.cons rfl (.cons rfl (.cons rfl (.cons rfl (.cons rfl .nil)))))) ?_
         ·exact ⟨hw35, hRu⟩
         ·exact (.cons rfl (by first | rfl | (refine congrArg (Value.int _) ?_; omega)) .nil)
       ·skip
        refine v_lit hw10 rfl rfl Tryd.underlying62 ti22 rfl (.cons rfl (by first | rfl | assumption) .nil) rfl rfl rfl (fun b22_9 w36 hw36 => ?_)
        try clear hw10
        refine l_nil ?_
        refine e_any (hw36.io mem3) ?_
        refine a_one (L' := [true, true, false, true, true, true, true, true, true, true, false, false, false]) 1 (by kernel_rfl) rfl rfl ?_
        refine v_lit hw36 rfl rfl Tryd.underlying35 ti3 rfl (.cons rfl (by first | rfl | assumption) .nil) rfl rfl rfl (fun b22_1 w37 hw37 => ?_)
        try clear hw36
        refine l_nil ?_
        refine e_any (hw37.io mem4) ?_
        refine a_one (L' := [true, true, true, true, true, true, true, true, true, true, false, false, false]) 2 (by kernel_rfl) rfl rfl ?_
        refine l_call rfl rfl Tryd.func12 rfl rfl (.cons rfl (.cons rfl .nil)) (prodR vv _ lv [10] _ 10 hRv R16.ten (by omega) (by simp) w37 (hw37.io mem2) (hw37.ibl mem0)) ?_
        rintro vp w38 ⟨_, lp, rfl, hRp, hG⟩
        have hw38 := hG _ _ _ _ hw37
        try clear hG hw37
        simp only [List.cons_append, List.nil_append] at hw38
        have hllp := hRv.len_mul R16.ten hRp
        simp only [List.length_cons, List.length_nil] at hllp
        refine l_nil ?_
        refine e_any (hw38.io mem5) ?_
        refine a_one (L' := [true, true, true, true, true, true, true, true, true, true, true, false, false]) 10 (by kernel_rfl) rfl rfl ?_
        refine l_call rfl rfl Tryd.func13 rfl rfl (.cons rfl .nil) (numR _ [((t.getD i 0).toNat : Int) - 48] (U.one (by omega)) (by simp) w38 (hw38.ibl mem2)) ?_
        rintro vm w39 ⟨_, lm, rfl, hRm, hG⟩
        have hw39 := hG _ _ _ _ hw38
        try clear hG hw38
        simp only [List.cons_append, List.nil_append] at hw39
        have hRm2 : R16 lm (((t.getD i 0).toNat : Int) - 48) := by have := hRm; rw [show Ma.vb 18446744073709551616 [((t.getD i 0).toNat : Int) - 48] = ((t.getD i 0).toNat : Int) - 48 from nv_one _] at this; exact this
        have hllm := R16.len_num (U.one (x := ((t.getD i 0).toNat : Int) - 48) (by omega)) hRm
        simp only [List.length_cons, List.length_nil] at hllm
        refine l_nil ?_
        refine e_any (hw39.io mem6) ?_
        refine a_one (L' := [true, true, true, true, true, true, true, true, true, true, true, true, false]) 11 (by kernel_rfl) rfl rfl ?_
        refine l_call rfl rfl Tryd.func11 rfl rfl (.cons rfl (.cons rfl .nil)) (sumR vp vm lp lm _ _ hRp hRm2 (by omega) (by omega) w39 (hw39.io mem1) (hw39.io mem0)) ?_
        rintro vu w40 ⟨_, lu, rfl, hRu, hG⟩
        have hw40 := hG _ _ _ _ hw39
        try clear hG hw39
        simp only [List.cons_append, List.nil_append] at hw40
        refine l_nil ?_
        refine e_any (hw40.io mem7) ?_
        apply a_take (L' := [true, true, true, true, true, true, true, true, true, true, true, true, true]) 12 rfl (by kernel_rfl) (by kernel_rfl) (by kernel_rfl) rfl rfl rfl rfl rfl (hw40.io mem7)
        ·intro wS sS
         refine l_assign rfl rfl rfl (l_nil ?_)
         exact e_got rfl
        refine a_done (by kernel_rfl) ?_
        have hw41 := St.frontL (l := [_, _, _, _, _, _, _]) hw40
        simp only [List.cons_append, List.nil_append] at hw41
        try clear hw40
        have hw42 := St.frontL (l := [_, _, _, _, _, _, _]) hw41
        simp only [List.cons_append, List.nil_append] at hw42
        try clear hw41
        have hw43 := St.frontL (l := [_, _]) hw42
        simp only [List.cons_append, List.nil_append] at hw43
        try clear hw42
        have hw44 := St.del (.tail (.tail (.tail (.tail (.tail (.tail (.tail .head))))))) hw43
        try clear hw43
        have hw45 := St.del (.tail (.tail (.tail (.tail (.tail (.tail .head)))))) hw44
        try clear hw44
        have hw46 := St.del (.tail (.tail (.tail (.tail (.tail .head))))) hw45
        try clear hw45
        have hw47 := St.del (.tail (.tail (.tail (.tail .head)))) hw46
        try clear hw46
        have hw48 := St.del (.tail (.tail (.tail .head))) hw47
        try clear hw47
        refine e_meetk (vu, lu) ?_ (.cons rfl (.cons rfl (.cons rfl (.cons rfl (.cons rfl (.cons rfl .nil)))))) ?_
        ·exact ⟨hw48, hRu⟩
        ·exact (.cons rfl (by first | rfl | (refine congrArg (Value.int _) ?_; omega)) .nil)
      rintro ⟨vn, ln⟩ w49 ⟨hw49, hRn⟩
      show RunC P _ _ _ (_ :: _) _
      refine c_seq (c_region (l_move rfl rfl rfl (l_nil (e_then ?_))))
      first | refine c_cond rfl (fun hc7 => ?_) (fun hc7 => ?_) | refine c_condb rfl (fun hc7 => ?_) (fun hc7 => ?_)
      ·skip
       refine c_region (l_move rfl rfl rfl ?_)
       refine l_add rfl rfl rfl rfl (w_i64 (by omega)) ?_
       refine l_assign rfl rfl rfl (l_nil ?_)
       refine e_blk ?_
       refine e_blk ?_
       refine e_then ?_
       refine c_keep [2, 8, 10, 12, 13, 14, 15] (.cons rfl (.cons rfl (.cons rfl (.cons rfl (.cons rfl (.cons rfl (.cons rfl .nil))))))) ?_
       refine c_region (l_move rfl rfl rfl ?_)
       refine l_add rfl rfl rfl rfl (w_i64 (by omega)) ?_
       refine l_assign rfl rfl rfl (l_nil ?_)
       have htk := take_snoc (l := t) (i := i) (by omega)
       have hsv : nrV (t.take (i + 1)) = nrV (t.take i) * 10 + (((t.getD i 0).toNat : Int) - 48) := by rw [htk, nrV_snoc]; unfold stV; rw [if_neg hc4, if_neg hc5]
       have hsb : nrB (t.take (i + 1)) = ((nrB (t.take i)).1 + 1, (nrB (t.take i)).2) := by rw [htk, nrB_snoc]; unfold stB; rw [if_neg hc4, if_neg hc5, if_pos hc7]
       refine e_againk (i := (i, vv, lv)) (i + 1, vn, ln) ?_ ?_ (.cons rfl (.cons rfl (.cons rfl .nil))) ?_
       ·first | omega | (simp; omega)
       ·exact ⟨hw49, by omega, by rw [hsv]; exact hRn⟩
       ·exact (.cons rfl (by first | rfl | (refine congrArg (Value.int _) ?_; omega)) (.cons rfl (by rw [hsb]) (.cons rfl (by rw [hsb]) (.cons rfl (by first | rfl | (refine congrArg (Value.int _) ?_; omega)) .nil))))
      ·skip
       refine c_skip ?_
       refine e_blk ?_
       refine e_blk ?_
       refine e_then ?_
       refine c_keep [2, 8, 10, 12, 13, 14, 15] (.cons rfl (.cons rfl (.cons rfl (.cons rfl (.cons rfl (.cons rfl (.cons rfl .nil))))))) ?_
       refine c_region (l_move rfl rfl rfl ?_)
       refine l_add rfl rfl rfl rfl (w_i64 (by omega)) ?_
       refine l_assign rfl rfl rfl (l_nil ?_)
       have htk := take_snoc (l := t) (i := i) (by omega)
       have hsv : nrV (t.take (i + 1)) = nrV (t.take i) * 10 + (((t.getD i 0).toNat : Int) - 48) := by rw [htk, nrV_snoc]; unfold stV; rw [if_neg hc4, if_neg hc5]
       have hsb : nrB (t.take (i + 1)) = ((nrB (t.take i)).1, (nrB (t.take i)).2) := by rw [htk, nrB_snoc]; unfold stB; rw [if_neg hc4, if_neg hc5, if_neg (by rw [hc7]; simp)]
       refine e_againk (i := (i, vv, lv)) (i + 1, vn, ln) ?_ ?_ (.cons rfl (.cons rfl (.cons rfl .nil))) ?_
       ·first | omega | (simp; omega)
       ·exact ⟨hw49, by omega, by rw [hsv]; exact hRn⟩
       ·exact (.cons rfl (by first | rfl | (refine congrArg (Value.int _) ?_; omega)) (.cons rfl (by rw [hsb]) (.cons rfl (by rw [hsb]) (.cons rfl (by first | rfl | (refine congrArg (Value.int _) ?_; omega)) .nil))))
    ·skip
     refine c_skip ?_
     refine e_blk ?_
     refine e_blk ?_
     refine e_then ?_
     refine c_keep [2, 8, 10, 12, 13, 14, 15] (.cons rfl (.cons rfl (.cons rfl (.cons rfl (.cons rfl (.cons rfl (.cons rfl .nil))))))) ?_
     refine c_region (l_move rfl rfl rfl ?_)
     refine l_add rfl rfl rfl rfl (w_i64 (by omega)) ?_
     refine l_assign rfl rfl rfl (l_nil ?_)
     have htk := take_snoc (l := t) (i := i) (by omega)
     have hsv : nrV (t.take (i + 1)) = nrV (t.take i) := by rw [htk, nrV_snoc]; unfold stV; rw [if_neg hc4, if_pos (by omega)]
     have hsb : nrB (t.take (i + 1)) = nrB (t.take i) := by rw [htk, nrB_snoc]; unfold stB; rw [if_neg hc4, if_pos (by omega)]
     refine e_againk (i := (i, vv, lv)) (i + 1, vv, lv) ?_ ?_ (.cons rfl (.cons rfl (.cons rfl .nil))) ?_
     ·first | omega | (simp; omega)
     ·exact ⟨hw9, by omega, by rw [hsv]; exact hRv⟩
     ·exact (.cons rfl (by first | rfl | (refine congrArg (Value.int _) ?_; omega)) (.cons rfl (by rw [hsb]) (.cons rfl (by rw [hsb]) (.cons rfl (by first | rfl | (refine congrArg (Value.int _) ?_; omega)) .nil))))
  ·skip
   refine c_exit ?_
   refine e_then_exit ?_
   refine e_then_exit ?_
   refine e_blk_exit ?_
   refine e_then ?_
   refine c_keep [2, 10, 12, 13] (.cons rfl (.cons rfl (.cons rfl (.cons rfl .nil)))) ?_
   refine c_seq (c_region ?_)
   obtain rfl : i = t.length := by omega
   refine l_turn (s := 13) (v' := .int .i64 q2) rfl (congrArg (Value.int .i64) (by rw [List.take_length, hB])) ?_
   rw [List.take_length, hV] at hRv
   have hrb : Ma.blen (rnE (fN (fX d (a % d.S)) (-q2)) (fD (fY d (a % d.S)) (-q2))) ≤ (2900 : Nat) := rn_blen ⟨hm0, hfin⟩ (by omega)
   have hllv := hRv.len hrb
   have hY0 := fY_pos d (a % d.S)
   have hD0 := fD_pos hY0 (-q2)
   have hhalf := rnE_half (N := fN (fX d (a % d.S)) (-q2)) hD0
   rw [show fD (fY d (a % d.S)) (-q2) = fY d (a % d.S) from by unfold fD; rw [show (-q2).toNat = 0 by omega, Int.pow_zero, Int.mul_one]] at hhalf hRv
   refine l_load_agg hw9 mem1 rfl rfl Tryd.underlying30 rfl tz30 rfl (.take (.take (.take .nil))) ?_
   refine l_call rfl rfl Tryd.func14 rfl rfl (.cons rfl .nil) (frac10 (splF (9 + n % 2) a).1 (splF (9 + n % 2) a).2.1 (splF (9 + n % 2) a).2.2.1 (by rw [hspl]; show 0 ≤ splM d (a % d.S) ∧ splM d (a % d.S) ≤ 18446744073709551615; omega) (by rw [hspl]; show -2000 ≤ splE d (a % d.S) ∧ splE d (a % d.S) ≤ 2000; omega) w9) ?_
   rintro _ w50 ⟨vx, lx, vy, ly, rfl, hRx, hRy, hG⟩
   have hw50 := hG _ _ _ _ hw9
   try clear hG hw9
   simp only [List.cons_append, List.nil_append] at hw50
   rw [hspl] at hRx hRy
   have hRx : R16 lx (fX d (a % d.S)) := hRx
   have hRy : R16 ly (fY d (a % d.S)) := hRy
   have hllx := hRx.len hxy.2.1
   have hlly := hRy.len hxy.2.2
   refine l_move rfl rfl rfl (l_extract rfl rfl rfl rfl (l_extract rfl rfl rfl rfl (l_assign rfl rfl rfl (l_assign rfl rfl rfl (l_nil ?_)))))
   refine e_then ?_
   refine c_keep [2, 12, 13, 16, 17] (.cons rfl (.cons rfl (.cons rfl (.cons rfl (.cons rfl .nil))))) ?_
   refine c_seq (c_region (l_move rfl rfl rfl (l_move rfl rfl rfl ?_)))
   refine l_call rfl rfl Tryd.func15 rfl rfl (.cons rfl .nil) (tenR q2 (by omega) w50) ?_
   rintro vt w51 ⟨_, lt, rfl, hRt, hG⟩
   have hw51 := hG _ _ _ _ hw50
   try clear hG hw50
   simp only [List.cons_append, List.nil_append] at hw51
   have hbt := blen_10 q2.toNat
   have hllt := hRt.len hbt
   refine l_call rfl rfl Tryd.func12 rfl rfl (.cons rfl (.cons rfl .nil)) (prodR vx vt lx lt _ _ hRx hRt (by omega) (by omega) w51 (hw51.io mem2) (hw51.io mem0)) ?_
   rintro vxp w52 ⟨_, lxp, rfl, hRxp, hG⟩
   have hw52 := hG _ _ _ _ hw51
   try clear hG hw51
   simp only [List.cons_append, List.nil_append] at hw52
   have hllxp := hRx.len_mul hRt hRxp
   have eN : fX d (a % d.S) * 10 ^ q2.toNat = fN (fX d (a % d.S)) (-q2) := by unfold fN; rw [Int.neg_neg]
   have hRxp : R16 lxp (fX d (a % d.S) * 10 ^ q2.toNat) := hRxp
   refine l_assign rfl rfl rfl (l_nil (e_then ?_))
   refine c_keep [2, 12, 13, 16, 17] (.cons rfl (.cons rfl (.cons rfl (.cons rfl (.cons rfl .nil))))) ?_
   refine c_seq (c_region (l_move rfl rfl rfl ?_))
   refine l_callp rfl rfl Tryd.func16 rfl rfl (.cons rfl .nil) (trim_same hRv (by omega) (hw52.io mem4)) ?_
   refine l_move rfl rfl rfl ?_
   refine l_call rfl rfl Tryd.func12 rfl rfl (.cons rfl (.cons rfl .nil)) (prodR vv vy lv ly _ _ hRv hRy (by omega) (by omega) w52 (hw52.io mem4) (hw52.io mem2)) ?_
   rintro vvp w53 ⟨_, lvp, rfl, hRvp, hG⟩
   have hw53 := hG _ _ _ _ hw52
   try clear hG hw52
   simp only [List.cons_append, List.nil_append] at hw53
   have hllvp := hRv.len_mul hRy hRvp
   have hRvp : R16 lvp (rnE (fN (fX d (a % d.S)) (-q2)) (fY d (a % d.S)) * fY d (a % d.S)) := hRvp
   refine l_assign rfl rfl rfl (l_nil (e_then ?_))
   refine c_keep [2, 12, 13, 16, 17] (.cons rfl (.cons rfl (.cons rfl (.cons rfl (.cons rfl .nil))))) ?_
   refine c_seq (c_region (l_move rfl rfl rfl (l_assign rfl rfl rfl (l_nil (e_then ?_)))))
   refine c_keep [2, 12, 13, 16, 17] (.cons rfl (.cons rfl (.cons rfl (.cons rfl (.cons rfl .nil))))) ?_
   refine c_cutk (ι := Value × List Int × Int) (fun (z0 : Value × List Int × Int) (w' : World) => match z0 with | ⟨vd, ld, dd⟩ => St w w.heap.size None' ([As.ri 3 .i64 vd ld, As.ri 3 .i64 vy ly]) w' ∧ R16 ld dd ∧ ld.length ≤ 4096 ∧ dd + dd ≤ fY d (a % d.S)) (fun (z0 : Value × List Int × Int) => match z0 with | ⟨vd, ld, dd⟩ => [(18, vd)]) [2, 13, 17] (.cons rfl (.cons rfl (.cons rfl .nil))) ?_ ?_
   ·skip
    refine c_seq (c_region (l_move rfl rfl rfl (l_move rfl rfl rfl ?_)))
    refine l_call rfl rfl Tryd.func17 rfl rfl (.cons rfl (.cons rfl .nil)) (cmpR _ _ _ _ _ _ hRvp hRxp (by omega) (by omega) w53 (hw53.io mem0) (hw53.io mem1)) ?_
    rintro _ w54 ⟨rfl, hG⟩
    have hw54 := hG _ _ _ _ hw53
    try clear hG hw53
    simp only [List.cons_append, List.nil_append] at hw54
    refine l_gtr rfl rfl rfl rfl ?_
    refine l_nil (e_then ?_)
    refine c_keep [2, 12, 13, 16, 17, 136] (.cons rfl (.cons rfl (.cons rfl (.cons rfl (.cons rfl (.cons rfl .nil)))))) ?_
    first | refine c_cond rfl (fun hc8 => ?_) (fun hc8 => ?_) | refine c_condb rfl (fun hc8 => ?_) (fun hc8 => ?_)
    ·skip
     refine c_region (l_move rfl rfl rfl (l_move rfl rfl rfl ?_))
     refine l_call rfl rfl Tryd.func18 rfl rfl (.cons rfl (.cons rfl .nil)) (lessR vvp vxp lvp lxp _ _ hRvp hRxp (by omega) (by omega) (by unfold cmpI at hc8; (repeat' split at hc8) <;> omega) w54 (hw54.io mem0) (hw54.io mem1)) ?_
     rintro vl w55 ⟨_, ll, rfl, hRl, hG⟩
     have hw55 := hG _ _ _ _ hw54
     try clear hG hw54
     simp only [List.cons_append, List.nil_append] at hw55
     refine l_assign rfl rfl rfl (l_nil ?_)
     have hw56 := St.frontL (l := [_, _, _, _]) hw55
     simp only [List.cons_append, List.nil_append] at hw56
     try clear hw55
     have hw57 := St.frontL (l := [_]) hw56
     simp only [List.cons_append, List.nil_append] at hw57
     try clear hw56
     have hw58 := St.del (.tail (.tail (.tail (.tail (.tail (.tail (.tail (.tail .head)))))))) hw57
     try clear hw57
     have hw59 := St.del (.tail (.tail (.tail (.tail (.tail (.tail (.tail .head))))))) hw58
     try clear hw58
     have hw60 := St.del (.tail (.tail (.tail (.tail (.tail (.tail .head)))))) hw59
     try clear hw59
     have hw61 := St.del (.tail (.tail (.tail (.tail (.tail .head))))) hw60
     try clear hw60
     have hw62 := St.del (.tail (.tail (.tail (.tail .head)))) hw61
     try clear hw61
     have hw63 := St.del (.tail (.tail (.tail .head))) hw62
     try clear hw62
     have hw64 := St.del (.tail (.tail .head)) hw63
     try clear hw63
     refine e_meetk (vl, ll, rnE (fN (fX d (a % d.S)) (-q2)) (fY d (a % d.S)) * fY d (a % d.S) - fX d (a % d.S) * 10 ^ q2.toNat) ?_ (.cons rfl (.cons rfl (.cons rfl .nil))) ?_
     ·exact ⟨hw64, hRl, by have := hRl.len_mono hRvp (by have := hRxp.nonneg (by omega); omega); omega, by omega⟩
     ·exact (.cons rfl (by first | rfl | (refine congrArg (Value.int _) ?_; omega)) .nil)
    ·skip
     refine c_region (l_move rfl rfl rfl (l_move rfl rfl rfl ?_))
     refine l_call rfl rfl Tryd.func18 rfl rfl (.cons rfl (.cons rfl .nil)) (lessR vxp vvp lxp lvp _ _ hRxp hRvp (by omega) (by omega) (by unfold cmpI at hc8; (repeat' split at hc8) <;> omega) w54 (hw54.io mem1) (hw54.io mem0)) ?_
     rintro vl w65 ⟨_, ll, rfl, hRl, hG⟩
     have hw65 := hG _ _ _ _ hw54
     try clear hG hw54
     simp only [List.cons_append, List.nil_append] at hw65
     refine l_assign rfl rfl rfl (l_nil ?_)
     have hw66 := St.frontL (l := [_, _, _, _]) hw65
     simp only [List.cons_append, List.nil_append] at hw66
     try clear hw65
     have hw67 := St.frontL (l := [_]) hw66
     simp only [List.cons_append, List.nil_append] at hw67
     try clear hw66
     have hw68 := St.del (.tail (.tail (.tail (.tail (.tail (.tail (.tail (.tail .head)))))))) hw67
     try clear hw67
     have hw69 := St.del (.tail (.tail (.tail (.tail (.tail (.tail (.tail .head))))))) hw68
     try clear hw68
     have hw70 := St.del (.tail (.tail (.tail (.tail (.tail (.tail .head)))))) hw69
     try clear hw69
     have hw71 := St.del (.tail (.tail (.tail (.tail (.tail .head))))) hw70
     try clear hw70
     have hw72 := St.del (.tail (.tail (.tail (.tail .head)))) hw71
     try clear hw71
     have hw73 := St.del (.tail (.tail (.tail .head))) hw72
     try clear hw72
     have hw74 := St.del (.tail (.tail .head)) hw73
     try clear hw73
     refine e_meetk (vl, ll, fX d (a % d.S) * 10 ^ q2.toNat - rnE (fN (fX d (a % d.S)) (-q2)) (fY d (a % d.S)) * fY d (a % d.S)) ?_ (.cons rfl (.cons rfl (.cons rfl .nil))) ?_
     ·exact ⟨hw74, hRl, by have := hRl.len_mono hRxp (by have := hRvp.nonneg (by omega); omega); omega, by omega⟩
     ·exact (.cons rfl (by first | rfl | (refine congrArg (Value.int _) ?_; omega)) .nil)
   rintro ⟨vd, ld, dd⟩ w75 ⟨hw75, hRd, hld, hdd⟩
   show RunC P _ _ _ (_ :: _) _
   refine c_seq (c_region (l_move rfl rfl rfl (l_move rfl rfl rfl ?_)))
   refine l_eql rfl rfl rfl rfl ?_
   refine l_turn (s := 145) (v' := .bool true) rfl (by simp) ?_
   refine l_move rfl rfl rfl (l_move rfl rfl rfl (l_move rfl rfl rfl ?_))
   refine l_call rfl rfl Tryd.func11 rfl rfl (.cons rfl (.cons rfl .nil)) (sumR vd vd ld ld _ _ hRd hRd (by omega) (by omega) w75 (hw75.io mem0) (hw75.io mem0)) ?_
   rintro vs2 w76 ⟨_, ls2, rfl, hRs, hG⟩
   have hw76 := hG _ _ _ _ hw75
   try clear hG hw75
   simp only [List.cons_append, List.nil_append] at hw76
   have hbs := hRs.len (k := 70000) (by have h1 := hRd.blen; have h0 := hRd.nonneg (by omega); have := blen_mul (x := dd) (y := 2) h0 (by omega) (m := 69000) (n := 2) (by omega) (by decide); rw [show dd * 2 = dd + dd by omega] at this; omega)
   refine l_move rfl rfl rfl ?_
   refine l_call rfl rfl Tryd.func17 rfl rfl (.cons rfl (.cons rfl .nil)) (cmpR _ _ _ _ _ _ hRs hRy (by omega) (by omega) w76 (hw76.io mem0) (hw76.io mem2)) ?_
   rintro _ w77 ⟨rfl, hG⟩
   have hw77 := hG _ _ _ _ hw76
   try clear hG hw76
   simp only [List.cons_append, List.nil_append] at hw77
   refine l_leq rfl rfl rfl rfl ?_
   refine l_turn (s := 152) (v' := .bool true) rfl (by rw [decide_eq_true (cmpI_le0.2 (by omega))]) ?_
   refine l_pick_t rfl rfl rfl rfl ?_
   refine l_move rfl rfl rfl ?_
   refine l_call rfl rfl Tryd.func10 rfl rfl .nil (wakesL11 w77 (tab_keep hT (fun k hk hf => hw77.ext.block k hk hf))) ?_
   rintro _ w78 ⟨rfl, hG⟩
   have hw78 := hG _ _ _ _ hw77
   try clear hG hw77
   simp only [List.cons_append, List.nil_append] at hw78
   refine l_turn (s := 155) (v' := .bool true) rfl (by rfl) ?_
   refine l_pick_t rfl rfl rfl rfl ?_
   refine l_assign rfl rfl rfl (l_nil (e_then ?_))
   refine c_keep [6] (.cons rfl .nil) ?_
   refine c_ret ?_
   refine e_done1 Tryd.results3 rfl ?_
   refine ⟨_, rfl, ?_⟩
   have hw79 := St.del (.tail (.tail .head)) hw78
   try clear hw78
   have hw80 := St.del (.tail .head) hw79
   try clear hw79
   have hw81 := St.del .head hw80
   try clear hw80
   exact ⟨rfl, hw81.grows⟩
end Go.Proofs.YtojjlipcjdaejaaDoor.W
