/- walk of the document's step -/
import Derived.Test.YtgfkagaacdblbaaGreatZd
set_option linter.unusedVariables false
set_option linter.unusedSimpArgs false
set_option maxRecDepth 10000
namespace Go.Proofs.YtgfkagaacdblbaaGreat.W
open Go.Vc Go.RowKit Tryz
abbrev zr (va : Value) (x y z : Int) (vd : Value) : List Value := [va, .int .i64 x, .int .i64 y, .int .i64 z, vd]
theorem zrow_e (m : GDh) : zrow m = zr m.va m.h.line (m.h.nx : Int) (segV m.h) m.vd := rfl
theorem zr1 {va vd : Value} (h1 : va.oneCell' = true) (h2 : vd.oneCell' = true) (x y z : Int) : ∀ u ∈ zr va x y z vd, u.oneCell' = true := fun u hu => by
 simp only [List.mem_cons, List.not_mem_nil, or_false] at hu
 rcases hu with rfl | rfl | rfl | rfl | rfl
 ·exact h1
 ·rfl
 ·rfl
 ·rfl
 exact h2
theorem zset {R : List (List Value)} (hR : Z1g 5 R) {va vd : Value} (h1 : va.oneCell' = true) (h2 : vd.oneCell' = true) (x y z : Int) (i : Nat) : Z1g 5 (R.set i (zr va x y z vd)) := hR.set rfl (zr1 h1 h2 x y z) i
theorem zat {R : List (List Value)} {i : Nat} (h : i < R.length) (r : List Value) : (R.set i r)[i]? = some r := by simp [h]
section
variable {P : Program} {N : Nat} {ops : Array Oper} {ρ : Env} {w w0 : World} {rest : List Oper} {ty : TypeId} {pos : String} {af : Array Edge} {g : Option (Nat × Bool)}
  {B : Nat} {M : Nat → Prop} {σ σ' : List As} {E : TypeId} {k : Nat} {v : Value}
theorem Z1y {Q : Post} {p y : Operand} {ad : Addr} {i o n c : Nat} {t : TypeId} {R : List (List Value)} {r r' : List Value} {x : Value} (hw : St w0 B M σ w) (u : Upd σ (As.rk E 5 v (R.set i r)) (As.rk E 5 v (R.set i r')) σ') (hR : Z1g 5 (R.set i r)) (hi : i < R.length) (he : r.set o x = r') (ho : o < 5) (hv : v = .slice (some ad) n c)
  (hg : Z0t ops ρ g = true) (hsz : (P.info? t).map (·.size) = some 1) (hx : Z0g ρ p = some (.pointer (some ((ad.add (i * 5)).add o)))) (hy : Z0g ρ y = some x) (h1 : x.oneCell' = true)
  (nx : ∀ w', St w0 B M σ' w' → RunL P N ops ⟨false, Q⟩ rest ρ w') : RunL P N ops ⟨false, Q⟩ (⟨none, .store t p y, ty, pos, af, g⟩ :: rest) ρ w := by
 subst he
 have e : (R.set i r).set i (r.set o x) = R.set i (r.set o x) := List.set_set _
 rw [← e] at u
 exact k_store1 hw u hR (zat hi r) ho hv hg hsz hx hy h1 nx
end
abbrev zD (rb : Nat) (cs : List Value) (vh : Value) (R : List (List Value)) (va : Value) (l : List Int) (vd : Value) (rd : List (List Value)) : List As := [As.blk rb 80 cs, As.rk 82 5 vh R, As.ri 3 .i64 va l, As.rk 85 2 vd rd]
abbrev mZ (m : GDh) (y : Sg) (vd : Value) : GDh := ⟨(Z0G (Z1d m.h) m.h y).1, m.va, vd⟩
abbrev GDDo (Z : GDm) (i : Nat) (m : GDh) (s : Nat) (y : Sg) : GDm := { Z with hs := Z.hs.set i m, sg := Z.sg.set s y, la := (i : Int) }
abbrev zD0 (rb : Nat) (Z : GDm) (i : Nat) (m : GDh) : List As := zD rb (zC Z) Z.vh ((Z.hs.map zrow).set i (zrow m)) m.va m.h.asks m.vd (Z0Y (m.h.asks.take m.h.nx))
abbrev zD1 (rb : Nat) (Z : GDm) (i : Nat) (m : GDh) (vd : Value) : List As :=
 zD rb (zC (GDDo Z i (mZ m (sgN Z.abs (Z0x m.h)) vd) (Z0x m.h) (Z0G (Z1d m.h) m.h (sgN Z.abs (Z0x m.h))).2)) Z.vh ((Z.hs.map zrow).set i (zrow (mZ m (sgN Z.abs (Z0x m.h)) vd))) m.va m.h.asks vd (Z0Y (m.h.asks.take (Z0G (Z1d m.h) m.h (sgN Z.abs (Z0x m.h))).1.nx))
theorem zfin {Z : GDm} {rb i s : Nat} {m1 : GDh} {y1 : Sg} {S L B : List Int} {r : List Value} {va vd : Value} {l : List Int} {rd rd' : List (List Value)} (eS : S = (Z.sg.map stV).set s (stV y1)) (eL : L = (Z.sg.map laV).set s (laV y1)) (eB : B = (Z.sg.map (·.built)).set s y1.built) (er : r = zrow m1) (ed : rd = rd') :
  zD rb (zcC Z.vh S L B (i : Int)) Z.vh ((Z.hs.map zrow).set i r) va l vd rd = zD rb (zC (GDDo Z i m1 s y1)) Z.vh ((Z.hs.map zrow).set i (zrow m1)) va l vd rd' := by
 subst eS eL eB er ed
 unfold zC
 show _ = zD rb (zcC Z.vh ((Z.sg.set s y1).map stV) ((Z.sg.set s y1).map laV) ((Z.sg.set s y1).map (·.built)) (i : Int)) _ _ _ _ _ _
 rw [List.map_set, List.map_set, List.map_set]
theorem zsame {Z : GDm} (hw : Wf Z.abs) {s : Nat} (hs : s < 41) (f : Sg → Int) {y1 : Sg} (h : f y1 = f (sgN Z.abs s)) : Z.sg.map f = (Z.sg.map f).set s (f y1) := by
 rw [h, ← List.map_set, Z36 (Z4w hw hs)]
theorem step2 {s : Int} {h : Hd} {y : Sg} (hl : h.line = 2) : Z0G s h y = ({ h with line := if y.laid + 1 = Z15 s then 3 else 2 }, { y with laid := y.laid + 1 }) := if_pos hl
theorem step3 {s : Int} {h : Hd} {y : Sg} (hl : h.line = 3) : Z0G s h y = ({ h with line := 1 }, { y with done := true }) := by
 unfold Z0G
 rw [if_neg (by omega), if_pos hl]
theorem step1t {s : Int} {h : Hd} {y : Sg} (hl : h.line = 1) (hd : y.done = false) : Z0G s h y = ({ h with line := 2, tk := s }, { y with built := y.built + 1 }) := by
 unfold Z0G
 rw [if_neg (by omega), if_neg (by omega), if_pos hd]
theorem step1r {s : Int} {h : Hd} {y : Sg} (hl : h.line = 1) (hd : y.done = true) : Z0G s h y = ({ h with nx := h.nx + 1, line := if h.nx + 1 = h.asks.length then 4 else 1 }, y) := by
 unfold Z0G
 rw [if_neg (by omega), if_neg (by omega), if_neg (by rw [hd]; decide)]
theorem segLen_e (s : Nat) : (Z15 (s : Int) : Int) = (Z0M (s : Int)).2.1 := by
 unfold Z15 Z0M
 split
 ·rfl
 dsimp only
 split <;> omega
section
variable {Z : GDm} {rb i : Nat} {m : GDh} (hw : Wf Z.abs)
include hw
theorem fin_take (hl : m.h.line = 1) (hst : stV (sgN Z.abs (Z0x m.h)) = 0) :
  zD rb (zcC Z.vh ((Z.sg.map stV).set (Z0x m.h) 1) ((Z.sg.map laV).set (Z0x m.h) 0) ((Z.sg.map (·.built)).set (Z0x m.h) ((Z.sg.map (·.built)).getD (Z0x m.h) 0 + 1)) (i : Int)) Z.vh ((Z.hs.map zrow).set i (zr m.va 2 (m.h.nx : Int) (Z0x m.h : Int) m.vd)) m.va m.h.asks m.vd (Z0Y (m.h.asks.take m.h.nx)) = zD1 rb Z i m m.vd := by
 have hwb := Z1G m.h
 have h0 := stV_0.1 hst
 have hsk := hw.sok _ _ (hw.at hwb.2)
 have e := step1t (s := Z1d m.h) hl h0.1
 unfold zD1 mZ
 rw [e]
 refine zfin ?_ ?_ ?_ ?_ rfl
 ·exact congrArg ((Z.sg.map stV).set (Z0x m.h)) ((@stV_t { sgN Z.abs (Z0x m.h) with built := (sgN Z.abs (Z0x m.h)).built + 1 }).2 ⟨h0.1, by dsimp only; omega⟩).symm
 ·rw [show laV _ = 0 from by unfold laV; rcases hsk with h | h | h <;> (dsimp only; omega)]
 ·rw [bu_at hw hwb.2]
 unfold zrow segV
 dsimp only
 rw [if_pos (.inl rfl), hwb.1.symm]
 rfl
theorem fin_show (hl : m.h.line = 3) :
  zD rb (zcC Z.vh ((Z.sg.map stV).set (Z0x m.h) 2) (Z.sg.map laV) (Z.sg.map (·.built)) (i : Int)) Z.vh ((Z.hs.map zrow).set i (zr m.va 1 (m.h.nx : Int) (-1) m.vd)) m.va m.h.asks m.vd (Z0Y (m.h.asks.take m.h.nx)) = zD1 rb Z i m m.vd := by
 have hwb := Z1G m.h
 have e := step3 (s := Z1d m.h) (y := sgN Z.abs (Z0x m.h)) hl
 unfold zD1 mZ
 rw [e]
 refine zfin ?_ (zsame hw hwb.2 laV rfl) (zsame hw hwb.2 (·.built) rfl) rfl rfl
 rw [stV_2.2 rfl]
theorem fin_lay (b : Bool) (hl : m.h.line = 2) (hb : decide ((Z.sg.map laV).getD (Z0x m.h) 0 + 1 = (Z0M (Z0x m.h : Int)).2.1) = b) :
  zD rb (zcC Z.vh (Z.sg.map stV) ((Z.sg.map laV).set (Z0x m.h) ((Z.sg.map laV).getD (Z0x m.h) 0 + 1)) (Z.sg.map (·.built)) (i : Int)) Z.vh ((Z.hs.map zrow).set i (zr m.va (if b = true then 3 else m.h.line) (m.h.nx : Int) (segV m.h) m.vd)) m.va m.h.asks m.vd (Z0Y (m.h.asks.take m.h.nx)) = zD1 rb Z i m m.vd := by
 have hwb := Z1G m.h
 have e := step2 (s := Z1d m.h) (y := sgN Z.abs (Z0x m.h)) hl
 have hs := segLen_e (Z0x m.h)
 rw [← hwb.1] at hs
 rw [la_at hw hwb.2, ← hwb.1, ← hs] at hb
 unfold laV at hb
 unfold zD1 mZ
 rw [e]
 refine zfin (zsame hw hwb.2 stV rfl) ?_ (zsame hw hwb.2 (·.built) rfl) ?_ rfl
 ·rw [la_at hw hwb.2]
  rfl
 subst hb
 unfold zrow segV
 dsimp only
 by_cases hc : (sgN Z.abs (Z0x m.h)).laid + 1 = Z15 (Z1d m.h)
 ·rw [if_pos (by simpa using (by omega : ((sgN Z.abs (Z0x m.h)).laid : Int) + 1 = (Z15 (Z1d m.h) : Int))), if_pos (.inl hl), if_pos hc, if_pos (.inr rfl)]
  rfl
 rw [if_neg (by simpa using (by omega : ¬ ((sgN Z.abs (Z0x m.h)).laid : Int) + 1 = (Z15 (Z1d m.h) : Int))), if_pos (.inl hl), if_neg hc, if_pos (.inl rfl), hl]
 rfl
theorem Z2h (b : Bool) {vd : Value} (hl : m.h.line = 1) (hnx : m.h.nx < m.h.asks.length) (hmay : mayH m.h (sgN Z.abs (Z0x m.h)) = true) (hst : ¬ stV (sgN Z.abs (Z0x m.h)) = 0) (hb : decide ((m.h.nx : Int) + 1 = (m.h.asks.length : Int)) = b) :
  zD rb (zcC Z.vh (Z.sg.map stV) (Z.sg.map laV) (Z.sg.map (·.built)) (i : Int)) Z.vh ((Z.hs.map zrow).set i (zr m.va (if b = true then 4 else m.h.line) ((m.h.nx : Int) + 1) (segV m.h) vd)) m.va m.h.asks vd (Z0Y (m.h.asks.take m.h.nx) ++ [wrow (entS (m.h.asks.getD m.h.nx 0)).1]) = zD1 rb Z i m vd := by
 have hwb := Z1G m.h
 have hd : (sgN Z.abs (Z0x m.h)).done = true := by
  rw [may_st hl] at hmay
  have h1 : ¬ stV (sgN Z.abs (Z0x m.h)) = 1 := by simpa using hmay
  generalize sgN Z.abs (Z0x m.h) = y at *
  cases hy : y.done with
  | true => rfl
  | false =>
   exfalso
   by_cases h2 : y.built = 0
   ·exact hst (stV_0.2 ⟨hy, h2⟩)
   exact h1 (stV_t.2 ⟨hy, h2⟩)
 have e := step1r (s := Z1d m.h) hl hd
 unfold zD1 mZ
 rw [e]
 refine zfin (zsame hw hwb.2 stV rfl) (zsame hw hwb.2 laV rfl) (zsame hw hwb.2 (·.built) rfl) ?_ (Z30 hnx).symm
 have s1 : segV m.h = -1 := if_neg ZO
 rw [s1]
 cases b with
 | true =>
  have hc : m.h.nx + 1 = m.h.asks.length := by have := of_decide_eq_true hb; omega
  have s2 : segV { m.h with nx := m.h.nx + 1, line := 4 } = -1 := if_neg (by dsimp only; omega)
  dsimp only
  rw [if_pos rfl, if_pos hc]
  unfold zrow
  dsimp only
  rw [s2]
  rfl
 | false =>
  have hc : ¬ m.h.nx + 1 = m.h.asks.length := by have := of_decide_eq_false hb; omega
  have s2 : segV { m.h with nx := m.h.nx + 1, line := 1 } = -1 := if_neg (by dsimp only; omega)
  dsimp only
  rw [if_neg Bool.false_ne_true, if_neg hc]
  unfold zrow
  dsimp only
  rw [s2, hl]
  rfl
end
theorem stepR0 (rb i : Nat) (Z : GDm) (hwf : Wf Z.abs) (m : GDh) (hm : Z.hs[i]? = some m) (hmay : mayG Z.abs i = true) (hz : ∀ m ∈ Z.hs, m.va.oneCell' = true ∧ m.vd.oneCell' = true) (w : World) (hS : Sep w.heap.size (fps (zD0 rb Z i m)) w (zD0 rb Z i m)) :
  Z0f P 33 [ptr rb, .int .i64 (i : Int)] w fun r w' => ∃ vd, r = .tuple #[] ∧ vd.oneCell' = true ∧ Z1C w w' (zD0 rb Z i m) (zD1 rb Z i m vd) := by
 refine Z0o func33 rfl ntmps33 rfl ?_
 have H0 : St w w.heap.size (fps (zD0 rb Z i m)) (zD0 rb Z i m) w := St.startS hS
 have hmh := (mayZ hm).symm.trans hmay
 have hwk := hwf.wk (Z2L hm) hmay
 have hok := hwf.hd i m.h (Z2L hm)
 have hwb := Z1G m.h
 have hN41 := WfZ.n41 hwf
 have hn16 : Z.hs.length ≤ 16 := by simpa [GDm.abs] using hwf.n16
 have hR := Z3j hz
 obtain ⟨hv1, hd1⟩ := hz m (List.mem_of_getElem? hm)
 have hzl : (Z.hs.map zrow).length = Z.hs.length := List.length_map _
 have hi0 := (List.getElem?_eq_some_iff.1 hm).1
 have hil : i < (Z.hs.map zrow).length := by rw [hzl]; exact hi0
 have hsk := hwf.sok _ _ (hwf.at hwb.2)
 have hbu : 0 ≤ (sgN Z.abs (Z0x m.h)).built ∧ (sgN Z.abs (Z0x m.h)).built ≤ 1 := by rcases hsk with h | h | h <;> omega
 have hnx := hwk.nx
 have hal := hwk.al
 have hRg : Rg (-342) 308 m.h.asks := hok.q
 have hq0 := hRg.get hnx
 have hkl := hwk.line
 obtain ⟨Ah, ch, hvh⟩ : ∃ A c, Z.vh = .slice (some A) ((Z.hs.map zrow).set i (zrow m)).length c := by
  obtain ⟨hr, A, c, e, _, hs⟩ := Own.ik (zset hR hv1 hd1 _ _ _ i) (H0.ok (show As.rk 82 5 Z.vh ((Z.hs.map zrow).set i (zrow m)) ∈ _ from mem1))
  obtain ⟨ad, rfl⟩ := hs.some_ (by rw [hr.len, List.length_set]; omega)
  exact ⟨ad, c, e⟩
 simp only [zD0, zD] at H0
 rw [zrow_e] at H0 hvh
 rw [List.length_set] at hvh
 refine Z03 (Z00 (Zm (Z0b rfl rfl rfl (Z09 Z24 rfl rfl rfl ?_))))
 refine Z05 (Z0r (H0.ok mem0)) mem0 rfl rfl underlying75 rfl rfl rfl ?_
 refine Zm ?_
 refine Z1s (j := i) rfl rfl underlying75 tz82 (by decide) rfl rfl (Own.ik (zset hR hv1 hd1 _ _ _ i) (H0.ok mem1)) hvh ZP (by rw [List.length_set]; exact hil) ?_
 refine Zg (Z01 (Z02 ?_))
 refine Zk [0, 1, 4] ?_
 refine Z03 (Z00 (Zm (Zm (Z0b rfl rfl rfl (Z09 fo80_2 rfl rfl rfl ?_)))))
 refine Z0s H0 .head (zs_la hN41 (i : Int)) rfl tz3 rfl rfl rfl (fun w1 H1 => ?_)
 refine Z01 (Z02 ?_)
 refine Zk [0, 4] ?_
 refine Z03 (Z00 (Zm (Z0b rfl rfl rfl ?_)))
 refine Z0D Z2y rfl rfl rfl ?_
 refine Z0R (j := i) (o := 1) (r := zr m.va m.h.line (m.h.nx : Int) (segV m.h) m.vd) rfl rfl underlying3 rfl rfl hvh (Own.ik (zset hR hv1 hd1 _ _ _ i) (H1.ok mem1)) (zat hil _) rfl ?_
 refine Z01 (Z02 ?_)
 refine Zk [0, 4, 22] ?_
 refine Z0d (Z03 (Z00 ?_))
 refine Ze ?_
 refine Zg (Z01 (Z02 ?_))
 refine Zk [0, 4, 22, 23] ?_
 (first | refine Z0c rfl ?_ ?_ | refine Z08 rfl ?_ ?_) <;> intro hc0
 ·refine Z03 (Z00 (Zm ?_))
  refine Z0I rfl rfl func59 rfl rfl (.cons rfl .nil) (wantsR i m Z.vh ((Z.hs.map zrow).set i (zr m.va m.h.line (m.h.nx : Int) (segV m.h) m.vd)) (zat hil _) hnx hRg Ah ch (by rw [List.length_set]; exact hvh) w1 (Own.ik (zset hR hv1 hd1 _ _ _ i) (H1.ok mem1)) (Own.iv (H1.ok mem2))) ?_
  rintro _ w2 ⟨rfl, hG⟩
  have H2 := hG _ _ _ _ H1
  simp only [Zca, Zna] at H2
  refine Zg (Z01 (Z02 ?_))
  refine Zk [0, 4, 5] ?_
  refine Z03 (Z03 (Z00 ?_))
  refine Z0j (s := 5) (v' := .int .i64 ((Z0x m.h) : Int)) rfl (congrArg (Value.int .i64) hwb.1) ?_
  refine Zm (Zm (Z0b rfl rfl rfl (Z09 Z3z rfl rfl rfl (Z09 fo78_0 rfl rfl rfl ?_))))
  refine Z11 (j := (Z0x m.h)) (o := 1) (n := 1) rfl rfl underlying76 tz3 rfl rfl ZP hwb.2 ?_
  rw [Nat.mul_one]
  refine Z05 (Z0r (H2.ok mem0)) mem0 rfl rfl underlying3 rfl rfl (zc_s hN41 hwb.2) ?_
  refine Z0j (s := 33) (v' := .int .i64 (stV (sgN Z.abs (Z0x m.h)))) rfl (by rw [st_at hwf hwb.2]) ?_
  refine Ze ?_
  refine Z01 (Z02 ?_)
  refine Zk [0, 4, 5, 34] ?_
  (first | refine Z0c rfl ?_ ?_ | refine Z08 rfl ?_ ?_) <;> intro hc1
  ·refine Z03 (Z00 (Zm (Z0b rfl rfl rfl (Z09 Z3z rfl rfl rfl (Zm ?_)))))
   refine Z0I rfl rfl func60 rfl rfl (.cons rfl (.cons rfl .nil)) (TakeR rb Z.vh _ _ _ (i : Int) hN41 (Z0x m.h) hwb.2 (by rw [bu_at hwf hwb.2]; omega) w2 (St.rows (τ := [_]) H2)) ?_
   rintro _ w3 ⟨rfl, hX2⟩
   have H3 := hX2 _ _ _ _ H2
   simp only [Zca, Zna] at H3
   refine Z01 (Z02 ?_)
   refine Zk [4, 5] ?_
   refine Z03 (Z00 (Zm (Zm (Z0b rfl rfl rfl ?_))))
   refine Z0D fo82_3 rfl rfl rfl ?_
   refine Z1y (i := i) (o := 3) (R := Z.hs.map zrow) (r' := (zr m.va (m.h.line) ((m.h.nx : Int)) ((Z0x m.h)) m.vd)) H3 (by repeat (first | exact .head | apply Upd.tail)) (zset hR hv1 hd1 _ _ _ i) hil rfl (by decide) hvh rfl tz3 rfl rfl rfl (fun w4 H4 => ?_)
   refine Z01 (Z02 ?_)
   refine Zk [4] ?_
   refine Z03 (Z00 (Zm (Z0b rfl rfl rfl ?_)))
   refine Z0D Z2y rfl rfl rfl ?_
   refine Z1y (i := i) (o := 1) (R := Z.hs.map zrow) (r' := (zr m.va (2) ((m.h.nx : Int)) ((Z0x m.h)) m.vd)) H4 (by repeat (first | exact .head | apply Upd.tail)) (zset hR hv1 hd1 _ _ _ i) hil rfl (by decide) hvh rfl tz3 rfl rfl rfl (fun w5 H5 => ?_)
   refine Z01 (Z02 ?_)
   refine Zk [] ?_
   refine Z0i ?_
   refine Z07 ?_
   refine Z0k ?_
   try dsimp only
   refine e_done0r results33 ?_
   refine ⟨_, rfl, ?_⟩
   have H9 := St.front3 (St.front3 (St.front3 (St.front3 H5)))
   exact ⟨m.vd, rfl, hd1, St.transS (H9.cast (fin_take hwf ZO ZO))⟩
  refine Z0a (Z02 ?_)
  refine Zk [4] ?_
  refine Z03 ?_
  have H10 := H2.drewn
  obtain ⟨A9, c9, hv9⟩ := (Own.iv (H10.ok mem2) : IV _ m.va (ints .i64 m.h.asks)).lies (by simp; omega)
  refine Z1a (n := 19) [Zz,Zz,Zz,Zz,Zz,Zz,Zz,Zz,Zz,Zz,Zz,Zz,Zz,Zz,Zz,Zz,Zz,Zz,Zz] (fun wS => IK wS 5 Z.vh ((Z.hs.map zrow).set i (zr m.va m.h.line (m.h.nx : Int) (segV m.h) m.vd)) ∧ IS wS .i64 m.va m.h.asks) ZK rfl rfl ?_
  apply Zu (L' := [Zy,Zz,Zz,Zz,Zz,Zz,Zz,Zz,Zz,Zz,Zz,Zz,Zz,Zz,Zz,Zz,Zz,Zz,Zz]) 0 (⟨Own.ik (zset hR hv1 hd1 _ _ _ i) (H10.ok mem1), Own.iv (H10.ok mem2)⟩)
  ·intro wS sS
   refine Zm (Z01 ?_)
   exact Z04 rfl
  refine Z0N (L' := [Zy,Zy,Zz,Zz,Zz,Zz,Zz,Zz,Zz,Zz,Zz,Zz,Zz,Zz,Zz,Zz,Zz,Zz,Zz]) 1 rfl ZK ZK ZK rfl rfl rfl (⟨Own.ik (zset hR hv1 hd1 _ _ _ i) (H10.ok mem1), Own.iv (H10.ok mem2)⟩) rfl ?_
  apply Zu (L' := [Zy,Zy,Zy,Zz,Zz,Zz,Zz,Zz,Zz,Zz,Zz,Zz,Zz,Zz,Zz,Zz,Zz,Zz,Zz]) 2 (⟨Own.ik (zset hR hv1 hd1 _ _ _ i) (H10.ok mem1), Own.iv (H10.ok mem2)⟩)
  ·intro wS sS
   refine Z0D Z4q rfl rfl rfl ?_
   refine Z01 ?_
   exact Z04 rfl
  apply Zu (L' := [Zy,Zy,Zy,Zy,Zz,Zz,Zz,Zz,Zz,Zz,Zz,Zz,Zz,Zz,Zz,Zz,Zz,Zz,Zz]) 3 (⟨Own.ik (zset hR hv1 hd1 _ _ _ i) (H10.ok mem1), Own.iv (H10.ok mem2)⟩)
  ·intro wS sS
   refine Z0R (j := i) (o := 0) (r := zr m.va m.h.line (m.h.nx : Int) (segV m.h) m.vd) rfl rfl underlying34 rfl rfl hvh (sS.1) (zat hil _) rfl ?_
   refine Z01 ?_
   exact Z04 rfl
  apply Zu (L' := [Zy,Zy,Zy,Zy,Zy,Zz,Zz,Zz,Zz,Zz,Zz,Zz,Zz,Zz,Zz,Zz,Zz,Zz,Zz]) 4 (⟨Own.ik (zset hR hv1 hd1 _ _ _ i) (H10.ok mem1), Own.iv (H10.ok mem2)⟩)
  ·intro wS sS
   refine Zm (Z01 ?_)
   exact Z04 rfl
  refine Z0N (L' := [Zy,Zy,Zy,Zy,Zy,Zy,Zz,Zz,Zz,Zz,Zz,Zz,Zz,Zz,Zz,Zz,Zz,Zz,Zz]) 5 rfl ZK ZK ZK rfl rfl rfl (⟨Own.ik (zset hR hv1 hd1 _ _ _ i) (H10.ok mem1), Own.iv (H10.ok mem2)⟩) rfl ?_
  apply Zu (L' := [Zy,Zy,Zy,Zy,Zy,Zy,Zy,Zz,Zz,Zz,Zz,Zz,Zz,Zz,Zz,Zz,Zz,Zz,Zz]) 6 (⟨Own.ik (zset hR hv1 hd1 _ _ _ i) (H10.ok mem1), Own.iv (H10.ok mem2)⟩)
  ·intro wS sS
   refine Z0D Z2f rfl rfl rfl ?_
   refine Z01 ?_
   exact Z04 rfl
  apply Zu (L' := [Zy,Zy,Zy,Zy,Zy,Zy,Zy,Zy,Zz,Zz,Zz,Zz,Zz,Zz,Zz,Zz,Zz,Zz,Zz]) 7 (⟨Own.ik (zset hR hv1 hd1 _ _ _ i) (H10.ok mem1), Own.iv (H10.ok mem2)⟩)
  ·intro wS sS
   refine Z0R (j := i) (o := 2) (r := zr m.va m.h.line (m.h.nx : Int) (segV m.h) m.vd) rfl rfl underlying3 rfl rfl hvh (sS.1) (zat hil _) rfl ?_
   refine Z01 ?_
   exact Z04 rfl
  apply Zu (L' := [Zy,Zy,Zy,Zy,Zy,Zy,Zy,Zy,Zy,Zz,Zz,Zz,Zz,Zz,Zz,Zz,Zz,Zz,Zz]) 8 (⟨Own.ik (zset hR hv1 hd1 _ _ _ i) (H10.ok mem1), Own.iv (H10.ok mem2)⟩)
  ·intro wS sS
   refine Z1c (j := m.h.nx) rfl rfl underlying34 tz3 rfl rfl hv9 ZP ZI ?_
   refine Z01 ?_
   exact Z04 rfl
  apply Zu (L' := [Zy,Zy,Zy,Zy,Zy,Zy,Zy,Zy,Zy,Zy,Zz,Zz,Zz,Zz,Zz,Zz,Zz,Zz,Zz]) 9 (⟨Own.ik (zset hR hv1 hd1 _ _ _ i) (H10.ok mem1), Own.iv (H10.ok mem2)⟩)
  ·intro wS sS
   refine Z1u rfl rfl underlying3 rfl hv9 (by first | exact sS.2 | exact H10.ibl mem0 | exact H10.ik ZA mem1 | exact H10.io mem2 | exact H10.ik ZA mem3 | assumption) ZA ZI (fun hb9_9 => ?_)
   refine Z01 ?_
   exact Z04 rfl
  refine Z2B (L' := [Zy,Zy,Zy,Zy,Zy,Zy,Zy,Zy,Zy,Zy,Zy,Zz,Zz,Zz,Zz,Zz,Zz,Zz,Zz]) (L'' := [Zy,Zy,Zy,Zy,Zy,Zy,Zy,Zy,Zy,Zy,Zz,Zz,Zz,Zz,Zz,Zy,Zz,Zz,Zz]) 10 15 ZK rfl rfl rfl rfl ?_ ?_
  ·refine Zc func61 (entryR (m.h.asks.getD m.h.nx 0) ZO w2.drew) ?_
   rintro _ w11 ⟨rfl, hG⟩
   have H11 := hG _ _ _ _ H10
   simp only [Zca, Zna] at H11
   refine Z01 ?_
   refine Z0n (⟨Own.ik (zset hR hv1 hd1 _ _ _ i) (H11.ok mem1), Own.iv (H11.ok mem2)⟩) ?_
   apply Zu (L' := [Zy,Zy,Zy,Zy,Zy,Zy,Zy,Zy,Zy,Zy,Zy,Zy,Zz,Zz,Zz,Zz,Zz,Zz,Zz]) 11 (⟨Own.ik (zset hR hv1 hd1 _ _ _ i) (H11.ok mem1), Own.iv (H11.ok mem2)⟩)
   ·intro wS sS
    refine Zm (Z01 ?_)
    exact Z04 rfl
   apply Zu (L' := [Zy,Zy,Zy,Zy,Zy,Zy,Zy,Zy,Zy,Zy,Zy,Zy,Zy,Zz,Zz,Zz,Zz,Zz,Zz]) 12 (⟨Own.ik (zset hR hv1 hd1 _ _ _ i) (H11.ok mem1), Own.iv (H11.ok mem2)⟩)
   ·intro wS sS
    refine Zx (Z01 ?_)
    exact Z04 rfl
   apply Zu (L' := [Zy,Zy,Zy,Zy,Zy,Zy,Zy,Zy,Zy,Zy,Zy,Zy,Zy,Zy,Zz,Zz,Zz,Zz,Zz]) 13 (⟨Own.ik (zset hR hv1 hd1 _ _ _ i) (H11.ok mem1), Own.iv (H11.ok mem2)⟩)
   ·intro wS sS
    refine Zx (Z01 ?_)
    exact Z04 rfl
   apply Zu (L' := [Zy,Zy,Zy,Zy,Zy,Zy,Zy,Zy,Zy,Zy,Zy,Zy,Zy,Zy,Zy,Zz,Zz,Zz,Zz]) 14 (⟨Own.ik (zset hR hv1 hd1 _ _ _ i) (H11.ok mem1), Own.iv (H11.ok mem2)⟩)
   ·intro wS sS
    refine Zx (Z01 ?_)
    exact Z04 rfl
   refine Z0v (L' := [Zy,Zy,Zy,Zy,Zy,Zy,Zy,Zy,Zy,Zy,Zy,Zy,Zy,Zy,Zy,Zy,Zz,Zz,Zz]) 15 ZK rfl rfl ?_
   refine Z0X H11 ta85 rfl rfl (fun b9_15 w12 H12 => ?_)
   refine Z01 ?_
   refine Z0n (⟨Own.ik (zset hR hv1 hd1 _ _ _ i) (H12.ok mem2), Own.iv (H12.ok mem3)⟩) ?_
   refine Z0v (L' := [Zy,Zy,Zy,Zy,Zy,Zy,Zy,Zy,Zy,Zy,Zy,Zy,Zy,Zy,Zy,Zy,Zy,Zz,Zz]) 16 ZK rfl rfl ?_
   refine Z0m H12 .head (.zero (.zero .nil)) rfl tz85 rfl rfl ZC (fun w13 H13 => ?_)
   refine Z01 ?_
   refine Z0n (⟨Own.ik (zset hR hv1 hd1 _ _ _ i) (H13.ok mem2), Own.iv (H13.ok mem3)⟩) ?_
   apply Zu (L' := [Zy,Zy,Zy,Zy,Zy,Zy,Zy,Zy,Zy,Zy,Zy,Zy,Zy,Zy,Zy,Zy,Zy,Zy,Zz]) 17 (⟨Own.ik (zset hR hv1 hd1 _ _ _ i) (H13.ok mem2), Own.iv (H13.ok mem3)⟩)
   ·intro wS sS
    refine Zg (Z01 ?_)
    exact Z04 rfl
   apply Zu (L' := [Zy,Zy,Zy,Zy,Zy,Zy,Zy,Zy,Zy,Zy,Zy,Zy,Zy,Zy,Zy,Zy,Zy,Zy,Zy]) 18 (⟨Own.ik (zset hR hv1 hd1 _ _ _ i) (H13.ok mem2), Own.iv (H13.ok mem3)⟩)
   ·intro wS sS
    refine Zg (Z01 ?_)
    exact Z04 rfl
   refine Z0B ZK ?_
   refine Z02 ?_
   refine Zk [4, 6] ?_
   refine Z03 ?_
   have H14 := H13.drewn
   refine Z1a (n := 11) [Zz,Zz,Zz,Zz,Zz,Zz,Zz,Zz,Zz,Zz,Zz] (fun wS => (As.blk b9_15 85 (wrow (entS (m.h.asks.getD m.h.nx 0)).1)).ok wS) ZK rfl rfl ?_
   apply Zu (L' := [Zy,Zz,Zz,Zz,Zz,Zz,Zz,Zz,Zz,Zz,Zz]) 0 (H14.ok mem0)
   ·intro wS sS
    refine Zm (Z01 ?_)
    exact Z04 rfl
   apply Zu (L' := [Zy,Zy,Zz,Zz,Zz,Zz,Zz,Zz,Zz,Zz,Zz]) 1 (H14.ok mem0)
   ·intro wS sS
    refine Zm (Z01 ?_)
    exact Z04 rfl
   refine Z0N (L' := [Zy,Zy,Zy,Zz,Zz,Zz,Zz,Zz,Zz,Zz,Zz]) 2 rfl ZK ZK ZK rfl rfl rfl (H14.ok mem0) rfl ?_
   apply Zu (L' := [Zy,Zy,Zy,Zy,Zz,Zz,Zz,Zz,Zz,Zz,Zz]) 3 (H14.ok mem0)
   ·intro wS sS
    refine Z0D Z4g rfl rfl rfl ?_
    refine Z01 ?_
    exact Z04 rfl
   apply Zu (L' := [Zy,Zy,Zy,Zy,Zz,Zy,Zz,Zz,Zz,Zz,Zz]) 5 (H14.ok mem0)
   ·intro wS sS
    refine Z1b (Z0r sS) mem0 rfl rfl underlying85 rfl tz85 rfl (.take (.take .nil)) ?_
    refine Z01 ?_
    exact Z04 rfl
   refine Z2B (L' := [Zy,Zy,Zy,Zy,Zy,Zy,Zz,Zz,Zz,Zz,Zz]) (L'' := [Zy,Zy,Zy,Zy,Zz,Zy,Zy,Zz,Zz,Zz,Zz]) 4 6 ZK rfl rfl rfl rfl ?_ ?_
   ·refine Z0R (j := i) (o := 4) (r := zr m.va m.h.line (m.h.nx : Int) (segV m.h) m.vd) rfl rfl underlying47 rfl rfl hvh (Own.ik (zset hR hv1 hd1 _ _ _ i) (H14.ok mem2)) (zat hil _) rfl ?_
    refine Z01 ?_
    refine Z0n (H14.ok mem0) ?_
    refine Z0v (L' := [Zy,Zy,Zy,Zy,Zy,Zy,Zy,Zz,Zz,Zz,Zz]) 6 ZK rfl rfl ?_
    refine Z2t H14 rfl rfl underlying47 ti85 rfl rfl rfl (fun b10_6 w15 H15 => ?_)
    refine Z01 ?_
    refine Z0n (H15.ok mem1) ?_
    refine Z0v (L' := [Zy,Zy,Zy,Zy,Zy,Zy,Zy,Zy,Zz,Zz,Zz]) 7 ZK rfl rfl ?_
    have H16 := St.frontL (l := [_, _, _, _, _]) H15
    simp only [Zca, Zna] at H16
    refine Z19 (r := wrow (entS (m.h.asks.getD m.h.nx 0)).1) H16 rfl rfl underlying47 ti85 rfl rfl rfl rfl (Z1M (H16.ok mem1)) (by simp [Value.oneCell']) (by simp [Z0Y]; omega) (by simp [Z0Y]; omega) (fun v10_7 w17 H17 => ?_)
    refine Z01 ?_
    refine Z0n (H17.ok mem2) ?_
    refine Z0N (L' := [Zy,Zy,Zy,Zy,Zy,Zy,Zy,Zy,Zy,Zz,Zz]) 8 rfl ZK ZK ZK rfl rfl rfl (H17.ok mem2) rfl ?_
    apply Zu (L' := [Zy,Zy,Zy,Zy,Zy,Zy,Zy,Zy,Zy,Zy,Zz]) 9 (H17.ok mem2)
    ·intro wS sS
     refine Z0D Z4g rfl rfl rfl ?_
     refine Z01 ?_
     exact Z04 rfl
    refine Z0v (L' := [Zy,Zy,Zy,Zy,Zy,Zy,Zy,Zy,Zy,Zy,Zy]) 10 ZK rfl rfl ?_
    refine Z1y (i := i) (o := 4) (R := Z.hs.map zrow) (r' := (zr m.va (m.h.line) ((m.h.nx : Int)) (segV m.h) v10_7)) H17 (by repeat (first | exact .head | apply Upd.tail)) (zset hR hv1 hd1 _ _ _ i) hil rfl (by decide) hvh rfl tz47 rfl rfl (Z1v (H17.ok mem0)) (fun w18 H18 => ?_)
    refine Z01 ?_
    refine Z0n (H18.ok mem2) ?_
    refine Z0B ZK ?_
    refine Z02 ?_
    refine Zk [4] ?_
    refine Z03 (Z00 ?_)
    have hdn : v10_7.oneCell' = true := Z1v (H18.ok mem0)
    refine Zm (Z0b rfl rfl rfl ?_)
    refine Z0D Z2f rfl rfl rfl ?_
    refine Z0R (j := i) (o := 2) (r := (zr m.va (m.h.line) ((m.h.nx : Int)) (segV m.h) v10_7)) rfl rfl underlying3 rfl rfl hvh (Own.ik (zset hR hv1 hdn _ _ _ i) (H18.ok mem4)) (zat hil _) rfl ?_
    refine Z0y rfl rfl rfl rfl (Z0l ZO) ?_
    refine Z0b rfl rfl rfl ?_
    refine Z0D Z2f rfl rfl rfl ?_
    refine Z1y (i := i) (o := 2) (R := Z.hs.map zrow) (r' := (zr m.va (m.h.line) ((m.h.nx : Int) + 1) (segV m.h) v10_7)) H18 (by repeat (first | exact .head | apply Upd.tail)) (zset hR hv1 hdn _ _ _ i) hil rfl (by decide) hvh rfl tz3 rfl rfl rfl (fun w19 H19 => ?_)
    refine Z01 (Z02 ?_)
    refine Zk [4] ?_
    refine Z03 ?_
    have H20 := H19.drewn
    refine Z1a (n := 10) [Zz,Zz,Zz,Zz,Zz,Zz,Zz,Zz,Zz,Zz] (fun wS => IK wS 5 Z.vh ((Z.hs.map zrow).set i (zr m.va (m.h.line) ((m.h.nx : Int) + 1) (segV m.h) v10_7)) ∧ IS wS .i64 m.va m.h.asks) ZK rfl rfl ?_
    apply Zu (L' := [Zy,Zz,Zz,Zz,Zz,Zz,Zz,Zz,Zz,Zz]) 0 (⟨Own.ik (zset hR hv1 hdn _ _ _ i) (H20.ok mem4), Own.iv (H20.ok mem5)⟩)
    ·intro wS sS
     refine Zm (Z01 ?_)
     exact Z04 rfl
    refine Z0N (L' := [Zy,Zy,Zz,Zz,Zz,Zz,Zz,Zz,Zz,Zz]) 1 rfl ZK ZK ZK rfl rfl rfl (⟨Own.ik (zset hR hv1 hdn _ _ _ i) (H20.ok mem4), Own.iv (H20.ok mem5)⟩) rfl ?_
    apply Zu (L' := [Zy,Zy,Zy,Zz,Zz,Zz,Zz,Zz,Zz,Zz]) 2 (⟨Own.ik (zset hR hv1 hdn _ _ _ i) (H20.ok mem4), Own.iv (H20.ok mem5)⟩)
    ·intro wS sS
     refine Z0D Z2f rfl rfl rfl ?_
     refine Z01 ?_
     exact Z04 rfl
    apply Zu (L' := [Zy,Zy,Zy,Zy,Zz,Zz,Zz,Zz,Zz,Zz]) 3 (⟨Own.ik (zset hR hv1 hdn _ _ _ i) (H20.ok mem4), Own.iv (H20.ok mem5)⟩)
    ·intro wS sS
     refine Z0R (j := i) (o := 2) (r := (zr m.va (m.h.line) ((m.h.nx : Int) + 1) (segV m.h) v10_7)) rfl rfl underlying3 rfl rfl hvh (sS.1) (zat hil _) rfl ?_
     refine Z01 ?_
     exact Z04 rfl
    apply Zu (L' := [Zy,Zy,Zy,Zy,Zy,Zz,Zz,Zz,Zz,Zz]) 4 (⟨Own.ik (zset hR hv1 hdn _ _ _ i) (H20.ok mem4), Own.iv (H20.ok mem5)⟩)
    ·intro wS sS
     refine Zm (Z01 ?_)
     exact Z04 rfl
    refine Z0N (L' := [Zy,Zy,Zy,Zy,Zy,Zy,Zz,Zz,Zz,Zz]) 5 rfl ZK ZK ZK rfl rfl rfl (⟨Own.ik (zset hR hv1 hdn _ _ _ i) (H20.ok mem4), Own.iv (H20.ok mem5)⟩) rfl ?_
    apply Zu (L' := [Zy,Zy,Zy,Zy,Zy,Zy,Zy,Zz,Zz,Zz]) 6 (⟨Own.ik (zset hR hv1 hdn _ _ _ i) (H20.ok mem4), Own.iv (H20.ok mem5)⟩)
    ·intro wS sS
     refine Z0D Z4q rfl rfl rfl ?_
     refine Z01 ?_
     exact Z04 rfl
    apply Zu (L' := [Zy,Zy,Zy,Zy,Zy,Zy,Zy,Zy,Zz,Zz]) 7 (⟨Own.ik (zset hR hv1 hdn _ _ _ i) (H20.ok mem4), Own.iv (H20.ok mem5)⟩)
    ·intro wS sS
     refine Z0R (j := i) (o := 0) (r := (zr m.va (m.h.line) ((m.h.nx : Int) + 1) (segV m.h) v10_7)) rfl rfl underlying34 rfl rfl hvh (sS.1) (zat hil _) rfl ?_
     refine Z01 ?_
     exact Z04 rfl
    refine Z0v (L' := [Zy,Zy,Zy,Zy,Zy,Zy,Zy,Zy,Zy,Zz]) 8 ZK rfl rfl ?_
    refine Z0u rfl rfl underlying34 rfl (Own.iv (H20.ok mem5) : IV _ m.va (ints .i64 m.h.asks)) ?_
    refine Z01 ?_
    refine Z0n (⟨Own.ik (zset hR hv1 hdn _ _ _ i) (H20.ok mem4), Own.iv (H20.ok mem5)⟩) ?_
    apply Zu (L' := [Zy,Zy,Zy,Zy,Zy,Zy,Zy,Zy,Zy,Zy]) 9 (⟨Own.ik (zset hR hv1 hdn _ _ _ i) (H20.ok mem4), Own.iv (H20.ok mem5)⟩)
    ·intro wS sS
     refine Ze ?_
     refine Z01 ?_
     exact Z04 rfl
    refine Z0B ZK ?_
    refine Z02 ?_
    refine Zk [4, 88] ?_
    (first | refine Z0c rfl ?_ ?_ | refine Z08 rfl ?_ ?_) <;> intro hc2
    ·refine Z00 (Zm (Z0b rfl rfl rfl ?_))
     refine Z0D Z2y rfl rfl rfl ?_
     refine Z1y (i := i) (o := 1) (R := Z.hs.map zrow) (r' := (zr m.va (4) ((m.h.nx : Int) + 1) (segV m.h) v10_7)) H20 (by repeat (first | exact .head | apply Upd.tail)) (zset hR hv1 hdn _ _ _ i) hil rfl (by decide) hvh rfl tz3 rfl rfl rfl (fun w21 H21 => ?_)
     refine Z01 ?_
     refine Z0F ?_
     try dsimp only
     refine Z1o results33 ?_
     refine ⟨_, rfl, ?_⟩
     have H26 := St.del (.tail (.tail (.tail (.tail .head)))) (St.del (.tail (.tail (.tail (.tail (.tail .head))))) (St.front5 (St.front5 (St.front5 H21))))
     exact ⟨v10_7, rfl, hdn, St.transS (H26.cast (Z2h hwf true ZO hnx hmh ZO (decide_eq_true ZO)))⟩
    refine Z0a ?_
    refine Z0F ?_
    try dsimp only
    refine Z1o results33 ?_
    refine ⟨_, rfl, ?_⟩
    have H31 := St.del (.tail (.tail (.tail (.tail .head)))) (St.del (.tail (.tail (.tail (.tail (.tail .head))))) (St.front5 (St.front5 (St.front5 H20))))
    exact ⟨v10_7, rfl, hdn, St.transS (H31.cast (Z2h hwf false ZO hnx hmh ZO (decide_eq_false ZO)))⟩
   refine Z2t H14 rfl rfl underlying47 ti85 rfl rfl rfl (fun b10_6 w32 H32 => ?_)
   refine Z01 ?_
   refine Z0n (H32.ok mem1) ?_
   refine Z0v (L' := [Zy,Zy,Zy,Zy,Zy,Zy,Zy,Zz,Zz,Zz,Zz]) 4 ZK rfl rfl ?_
   refine Z0R (j := i) (o := 4) (r := zr m.va m.h.line (m.h.nx : Int) (segV m.h) m.vd) rfl rfl underlying47 rfl rfl hvh (Own.ik (zset hR hv1 hd1 _ _ _ i) (H32.ok mem3)) (zat hil _) rfl ?_
   refine Z01 ?_
   refine Z0n (H32.ok mem1) ?_
   refine Z0v (L' := [Zy,Zy,Zy,Zy,Zy,Zy,Zy,Zy,Zz,Zz,Zz]) 7 ZK rfl rfl ?_
   have H33 := St.frontL (l := [_, _, _, _, _]) H32
   simp only [Zca, Zna] at H33
   refine Z19 (r := wrow (entS (m.h.asks.getD m.h.nx 0)).1) H33 rfl rfl underlying47 ti85 rfl rfl rfl rfl (Z1M (H33.ok mem1)) (by simp [Value.oneCell']) (by simp [Z0Y]; omega) (by simp [Z0Y]; omega) (fun v10_7 w34 H34 => ?_)
   refine Z01 ?_
   refine Z0n (H34.ok mem2) ?_
   refine Z0N (L' := [Zy,Zy,Zy,Zy,Zy,Zy,Zy,Zy,Zy,Zz,Zz]) 8 rfl ZK ZK ZK rfl rfl rfl (H34.ok mem2) rfl ?_
   apply Zu (L' := [Zy,Zy,Zy,Zy,Zy,Zy,Zy,Zy,Zy,Zy,Zz]) 9 (H34.ok mem2)
   ·intro wS sS
    refine Z0D Z4g rfl rfl rfl ?_
    refine Z01 ?_
    exact Z04 rfl
   refine Z0v (L' := [Zy,Zy,Zy,Zy,Zy,Zy,Zy,Zy,Zy,Zy,Zy]) 10 ZK rfl rfl ?_
   refine Z1y (i := i) (o := 4) (R := Z.hs.map zrow) (r' := (zr m.va (m.h.line) ((m.h.nx : Int)) (segV m.h) v10_7)) H34 (by repeat (first | exact .head | apply Upd.tail)) (zset hR hv1 hd1 _ _ _ i) hil rfl (by decide) hvh rfl tz47 rfl rfl (Z1v (H34.ok mem0)) (fun w35 H35 => ?_)
   refine Z01 ?_
   refine Z0n (H35.ok mem2) ?_
   refine Z0B ZK ?_
   refine Z02 ?_
   refine Zk [4] ?_
   refine Z03 (Z00 ?_)
   have hdn : v10_7.oneCell' = true := Z1v (H35.ok mem0)
   refine Zm (Z0b rfl rfl rfl ?_)
   refine Z0D Z2f rfl rfl rfl ?_
   refine Z0R (j := i) (o := 2) (r := (zr m.va (m.h.line) ((m.h.nx : Int)) (segV m.h) v10_7)) rfl rfl underlying3 rfl rfl hvh (Own.ik (zset hR hv1 hdn _ _ _ i) (H35.ok mem4)) (zat hil _) rfl ?_
   refine Z0y rfl rfl rfl rfl (Z0l ZO) ?_
   refine Z0b rfl rfl rfl ?_
   refine Z0D Z2f rfl rfl rfl ?_
   refine Z1y (i := i) (o := 2) (R := Z.hs.map zrow) (r' := (zr m.va (m.h.line) ((m.h.nx : Int) + 1) (segV m.h) v10_7)) H35 (by repeat (first | exact .head | apply Upd.tail)) (zset hR hv1 hdn _ _ _ i) hil rfl (by decide) hvh rfl tz3 rfl rfl rfl (fun w36 H36 => ?_)
   refine Z01 (Z02 ?_)
   refine Zk [4] ?_
   refine Z03 ?_
   have H37 := H36.drewn
   refine Z1a (n := 10) [Zz,Zz,Zz,Zz,Zz,Zz,Zz,Zz,Zz,Zz] (fun wS => IK wS 5 Z.vh ((Z.hs.map zrow).set i (zr m.va (m.h.line) ((m.h.nx : Int) + 1) (segV m.h) v10_7)) ∧ IS wS .i64 m.va m.h.asks) ZK rfl rfl ?_
   apply Zu (L' := [Zy,Zz,Zz,Zz,Zz,Zz,Zz,Zz,Zz,Zz]) 0 (⟨Own.ik (zset hR hv1 hdn _ _ _ i) (H37.ok mem4), Own.iv (H37.ok mem5)⟩)
   ·intro wS sS
    refine Zm (Z01 ?_)
    exact Z04 rfl
   refine Z0N (L' := [Zy,Zy,Zz,Zz,Zz,Zz,Zz,Zz,Zz,Zz]) 1 rfl ZK ZK ZK rfl rfl rfl (⟨Own.ik (zset hR hv1 hdn _ _ _ i) (H37.ok mem4), Own.iv (H37.ok mem5)⟩) rfl ?_
   apply Zu (L' := [Zy,Zy,Zy,Zz,Zz,Zz,Zz,Zz,Zz,Zz]) 2 (⟨Own.ik (zset hR hv1 hdn _ _ _ i) (H37.ok mem4), Own.iv (H37.ok mem5)⟩)
   ·intro wS sS
    refine Z0D Z2f rfl rfl rfl ?_
    refine Z01 ?_
    exact Z04 rfl
   apply Zu (L' := [Zy,Zy,Zy,Zy,Zz,Zz,Zz,Zz,Zz,Zz]) 3 (⟨Own.ik (zset hR hv1 hdn _ _ _ i) (H37.ok mem4), Own.iv (H37.ok mem5)⟩)
   ·intro wS sS
    refine Z0R (j := i) (o := 2) (r := (zr m.va (m.h.line) ((m.h.nx : Int) + 1) (segV m.h) v10_7)) rfl rfl underlying3 rfl rfl hvh (sS.1) (zat hil _) rfl ?_
    refine Z01 ?_
    exact Z04 rfl
   apply Zu (L' := [Zy,Zy,Zy,Zy,Zy,Zz,Zz,Zz,Zz,Zz]) 4 (⟨Own.ik (zset hR hv1 hdn _ _ _ i) (H37.ok mem4), Own.iv (H37.ok mem5)⟩)
   ·intro wS sS
    refine Zm (Z01 ?_)
    exact Z04 rfl
   refine Z0N (L' := [Zy,Zy,Zy,Zy,Zy,Zy,Zz,Zz,Zz,Zz]) 5 rfl ZK ZK ZK rfl rfl rfl (⟨Own.ik (zset hR hv1 hdn _ _ _ i) (H37.ok mem4), Own.iv (H37.ok mem5)⟩) rfl ?_
   apply Zu (L' := [Zy,Zy,Zy,Zy,Zy,Zy,Zy,Zz,Zz,Zz]) 6 (⟨Own.ik (zset hR hv1 hdn _ _ _ i) (H37.ok mem4), Own.iv (H37.ok mem5)⟩)
   ·intro wS sS
    refine Z0D Z4q rfl rfl rfl ?_
    refine Z01 ?_
    exact Z04 rfl
   apply Zu (L' := [Zy,Zy,Zy,Zy,Zy,Zy,Zy,Zy,Zz,Zz]) 7 (⟨Own.ik (zset hR hv1 hdn _ _ _ i) (H37.ok mem4), Own.iv (H37.ok mem5)⟩)
   ·intro wS sS
    refine Z0R (j := i) (o := 0) (r := (zr m.va (m.h.line) ((m.h.nx : Int) + 1) (segV m.h) v10_7)) rfl rfl underlying34 rfl rfl hvh (sS.1) (zat hil _) rfl ?_
    refine Z01 ?_
    exact Z04 rfl
   refine Z0v (L' := [Zy,Zy,Zy,Zy,Zy,Zy,Zy,Zy,Zy,Zz]) 8 ZK rfl rfl ?_
   refine Z0u rfl rfl underlying34 rfl (Own.iv (H37.ok mem5) : IV _ m.va (ints .i64 m.h.asks)) ?_
   refine Z01 ?_
   refine Z0n (⟨Own.ik (zset hR hv1 hdn _ _ _ i) (H37.ok mem4), Own.iv (H37.ok mem5)⟩) ?_
   apply Zu (L' := [Zy,Zy,Zy,Zy,Zy,Zy,Zy,Zy,Zy,Zy]) 9 (⟨Own.ik (zset hR hv1 hdn _ _ _ i) (H37.ok mem4), Own.iv (H37.ok mem5)⟩)
   ·intro wS sS
    refine Ze ?_
    refine Z01 ?_
    exact Z04 rfl
   refine Z0B ZK ?_
   refine Z02 ?_
   refine Zk [4, 88] ?_
   (first | refine Z0c rfl ?_ ?_ | refine Z08 rfl ?_ ?_) <;> intro hc2
   ·refine Z00 (Zm (Z0b rfl rfl rfl ?_))
    refine Z0D Z2y rfl rfl rfl ?_
    refine Z1y (i := i) (o := 1) (R := Z.hs.map zrow) (r' := (zr m.va (4) ((m.h.nx : Int) + 1) (segV m.h) v10_7)) H37 (by repeat (first | exact .head | apply Upd.tail)) (zset hR hv1 hdn _ _ _ i) hil rfl (by decide) hvh rfl tz3 rfl rfl rfl (fun w38 H38 => ?_)
    refine Z01 ?_
    refine Z0F ?_
    try dsimp only
    refine Z1o results33 ?_
    refine ⟨_, rfl, ?_⟩
    have H43 := St.del (.tail (.tail (.tail (.tail .head)))) (St.del (.tail (.tail (.tail (.tail (.tail .head))))) (St.front5 (St.front5 (St.front5 H38))))
    exact ⟨v10_7, rfl, hdn, St.transS (H43.cast (Z2h hwf true ZO hnx hmh ZO (decide_eq_true ZO)))⟩
   refine Z0a ?_
   refine Z0F ?_
   try dsimp only
   refine Z1o results33 ?_
   refine ⟨_, rfl, ?_⟩
   have H48 := St.del (.tail (.tail (.tail (.tail .head)))) (St.del (.tail (.tail (.tail (.tail (.tail .head))))) (St.front5 (St.front5 (St.front5 H37))))
   exact ⟨v10_7, rfl, hdn, St.transS (H48.cast (Z2h hwf false ZO hnx hmh ZO (decide_eq_false ZO)))⟩
  refine Z0X H10 ta85 rfl rfl (fun b9_15 w49 H49 => ?_)
  refine Z01 ?_
  refine Z0n (⟨Own.ik (zset hR hv1 hd1 _ _ _ i) (H49.ok mem2), Own.iv (H49.ok mem3)⟩) ?_
  refine Z0v (L' := [Zy,Zy,Zy,Zy,Zy,Zy,Zy,Zy,Zy,Zy,Zy,Zz,Zz,Zz,Zz,Zy,Zz,Zz,Zz]) 10 ZK rfl rfl ?_
  refine Zc func61 (entryR (m.h.asks.getD m.h.nx 0) ZO w49) ?_
  rintro _ w50 ⟨rfl, hG⟩
  have H50 := hG _ _ _ _ H49
  simp only [Zca, Zna] at H50
  refine Z01 ?_
  refine Z0n (⟨Own.ik (zset hR hv1 hd1 _ _ _ i) (H50.ok mem2), Own.iv (H50.ok mem3)⟩) ?_
  apply Zu (L' := [Zy,Zy,Zy,Zy,Zy,Zy,Zy,Zy,Zy,Zy,Zy,Zy,Zz,Zz,Zz,Zy,Zz,Zz,Zz]) 11 (⟨Own.ik (zset hR hv1 hd1 _ _ _ i) (H50.ok mem2), Own.iv (H50.ok mem3)⟩)
  ·intro wS sS
   refine Zm (Z01 ?_)
   exact Z04 rfl
  apply Zu (L' := [Zy,Zy,Zy,Zy,Zy,Zy,Zy,Zy,Zy,Zy,Zy,Zy,Zy,Zz,Zz,Zy,Zz,Zz,Zz]) 12 (⟨Own.ik (zset hR hv1 hd1 _ _ _ i) (H50.ok mem2), Own.iv (H50.ok mem3)⟩)
  ·intro wS sS
   refine Zx (Z01 ?_)
   exact Z04 rfl
  apply Zu (L' := [Zy,Zy,Zy,Zy,Zy,Zy,Zy,Zy,Zy,Zy,Zy,Zy,Zy,Zy,Zz,Zy,Zz,Zz,Zz]) 13 (⟨Own.ik (zset hR hv1 hd1 _ _ _ i) (H50.ok mem2), Own.iv (H50.ok mem3)⟩)
  ·intro wS sS
   refine Zx (Z01 ?_)
   exact Z04 rfl
  apply Zu (L' := [Zy,Zy,Zy,Zy,Zy,Zy,Zy,Zy,Zy,Zy,Zy,Zy,Zy,Zy,Zy,Zy,Zz,Zz,Zz]) 14 (⟨Own.ik (zset hR hv1 hd1 _ _ _ i) (H50.ok mem2), Own.iv (H50.ok mem3)⟩)
  ·intro wS sS
   refine Zx (Z01 ?_)
   exact Z04 rfl
  refine Z0v (L' := [Zy,Zy,Zy,Zy,Zy,Zy,Zy,Zy,Zy,Zy,Zy,Zy,Zy,Zy,Zy,Zy,Zy,Zz,Zz]) 16 ZK rfl rfl ?_
  refine Z0m H50 .head (.zero (.zero .nil)) rfl tz85 rfl rfl ZC (fun w51 H51 => ?_)
  refine Z01 ?_
  refine Z0n (⟨Own.ik (zset hR hv1 hd1 _ _ _ i) (H51.ok mem2), Own.iv (H51.ok mem3)⟩) ?_
  apply Zu (L' := [Zy,Zy,Zy,Zy,Zy,Zy,Zy,Zy,Zy,Zy,Zy,Zy,Zy,Zy,Zy,Zy,Zy,Zy,Zz]) 17 (⟨Own.ik (zset hR hv1 hd1 _ _ _ i) (H51.ok mem2), Own.iv (H51.ok mem3)⟩)
  ·intro wS sS
   refine Zg (Z01 ?_)
   exact Z04 rfl
  apply Zu (L' := [Zy,Zy,Zy,Zy,Zy,Zy,Zy,Zy,Zy,Zy,Zy,Zy,Zy,Zy,Zy,Zy,Zy,Zy,Zy]) 18 (⟨Own.ik (zset hR hv1 hd1 _ _ _ i) (H51.ok mem2), Own.iv (H51.ok mem3)⟩)
  ·intro wS sS
   refine Zg (Z01 ?_)
   exact Z04 rfl
  refine Z0B ZK ?_
  refine Z02 ?_
  refine Zk [4, 6] ?_
  refine Z03 ?_
  have H52 := H51.drewn
  refine Z1a (n := 11) [Zz,Zz,Zz,Zz,Zz,Zz,Zz,Zz,Zz,Zz,Zz] (fun wS => (As.blk b9_15 85 (wrow (entS (m.h.asks.getD m.h.nx 0)).1)).ok wS) ZK rfl rfl ?_
  apply Zu (L' := [Zy,Zz,Zz,Zz,Zz,Zz,Zz,Zz,Zz,Zz,Zz]) 0 (H52.ok mem0)
  ·intro wS sS
   refine Zm (Z01 ?_)
   exact Z04 rfl
  apply Zu (L' := [Zy,Zy,Zz,Zz,Zz,Zz,Zz,Zz,Zz,Zz,Zz]) 1 (H52.ok mem0)
  ·intro wS sS
   refine Zm (Z01 ?_)
   exact Z04 rfl
  refine Z0N (L' := [Zy,Zy,Zy,Zz,Zz,Zz,Zz,Zz,Zz,Zz,Zz]) 2 rfl ZK ZK ZK rfl rfl rfl (H52.ok mem0) rfl ?_
  apply Zu (L' := [Zy,Zy,Zy,Zy,Zz,Zz,Zz,Zz,Zz,Zz,Zz]) 3 (H52.ok mem0)
  ·intro wS sS
   refine Z0D Z4g rfl rfl rfl ?_
   refine Z01 ?_
   exact Z04 rfl
  apply Zu (L' := [Zy,Zy,Zy,Zy,Zz,Zy,Zz,Zz,Zz,Zz,Zz]) 5 (H52.ok mem0)
  ·intro wS sS
   refine Z1b (Z0r sS) mem0 rfl rfl underlying85 rfl tz85 rfl (.take (.take .nil)) ?_
   refine Z01 ?_
   exact Z04 rfl
  refine Z2B (L' := [Zy,Zy,Zy,Zy,Zy,Zy,Zz,Zz,Zz,Zz,Zz]) (L'' := [Zy,Zy,Zy,Zy,Zz,Zy,Zy,Zz,Zz,Zz,Zz]) 4 6 ZK rfl rfl rfl rfl ?_ ?_
  ·refine Z0R (j := i) (o := 4) (r := zr m.va m.h.line (m.h.nx : Int) (segV m.h) m.vd) rfl rfl underlying47 rfl rfl hvh (Own.ik (zset hR hv1 hd1 _ _ _ i) (H52.ok mem2)) (zat hil _) rfl ?_
   refine Z01 ?_
   refine Z0n (H52.ok mem0) ?_
   refine Z0v (L' := [Zy,Zy,Zy,Zy,Zy,Zy,Zy,Zz,Zz,Zz,Zz]) 6 ZK rfl rfl ?_
   refine Z2t H52 rfl rfl underlying47 ti85 rfl rfl rfl (fun b10_6 w53 H53 => ?_)
   refine Z01 ?_
   refine Z0n (H53.ok mem1) ?_
   refine Z0v (L' := [Zy,Zy,Zy,Zy,Zy,Zy,Zy,Zy,Zz,Zz,Zz]) 7 ZK rfl rfl ?_
   have H54 := St.frontL (l := [_, _, _, _, _]) H53
   simp only [Zca, Zna] at H54
   refine Z19 (r := wrow (entS (m.h.asks.getD m.h.nx 0)).1) H54 rfl rfl underlying47 ti85 rfl rfl rfl rfl (Z1M (H54.ok mem1)) (by simp [Value.oneCell']) (by simp [Z0Y]; omega) (by simp [Z0Y]; omega) (fun v10_7 w55 H55 => ?_)
   refine Z01 ?_
   refine Z0n (H55.ok mem2) ?_
   refine Z0N (L' := [Zy,Zy,Zy,Zy,Zy,Zy,Zy,Zy,Zy,Zz,Zz]) 8 rfl ZK ZK ZK rfl rfl rfl (H55.ok mem2) rfl ?_
   apply Zu (L' := [Zy,Zy,Zy,Zy,Zy,Zy,Zy,Zy,Zy,Zy,Zz]) 9 (H55.ok mem2)
   ·intro wS sS
    refine Z0D Z4g rfl rfl rfl ?_
    refine Z01 ?_
    exact Z04 rfl
   refine Z0v (L' := [Zy,Zy,Zy,Zy,Zy,Zy,Zy,Zy,Zy,Zy,Zy]) 10 ZK rfl rfl ?_
   refine Z1y (i := i) (o := 4) (R := Z.hs.map zrow) (r' := (zr m.va (m.h.line) ((m.h.nx : Int)) (segV m.h) v10_7)) H55 (by repeat (first | exact .head | apply Upd.tail)) (zset hR hv1 hd1 _ _ _ i) hil rfl (by decide) hvh rfl tz47 rfl rfl (Z1v (H55.ok mem0)) (fun w56 H56 => ?_)
   refine Z01 ?_
   refine Z0n (H56.ok mem2) ?_
   refine Z0B ZK ?_
   refine Z02 ?_
   refine Zk [4] ?_
   refine Z03 (Z00 ?_)
   have hdn : v10_7.oneCell' = true := Z1v (H56.ok mem0)
   refine Zm (Z0b rfl rfl rfl ?_)
   refine Z0D Z2f rfl rfl rfl ?_
   refine Z0R (j := i) (o := 2) (r := (zr m.va (m.h.line) ((m.h.nx : Int)) (segV m.h) v10_7)) rfl rfl underlying3 rfl rfl hvh (Own.ik (zset hR hv1 hdn _ _ _ i) (H56.ok mem4)) (zat hil _) rfl ?_
   refine Z0y rfl rfl rfl rfl (Z0l ZO) ?_
   refine Z0b rfl rfl rfl ?_
   refine Z0D Z2f rfl rfl rfl ?_
   refine Z1y (i := i) (o := 2) (R := Z.hs.map zrow) (r' := (zr m.va (m.h.line) ((m.h.nx : Int) + 1) (segV m.h) v10_7)) H56 (by repeat (first | exact .head | apply Upd.tail)) (zset hR hv1 hdn _ _ _ i) hil rfl (by decide) hvh rfl tz3 rfl rfl rfl (fun w57 H57 => ?_)
   refine Z01 (Z02 ?_)
   refine Zk [4] ?_
   refine Z03 ?_
   have H58 := H57.drewn
   refine Z1a (n := 10) [Zz,Zz,Zz,Zz,Zz,Zz,Zz,Zz,Zz,Zz] (fun wS => IK wS 5 Z.vh ((Z.hs.map zrow).set i (zr m.va (m.h.line) ((m.h.nx : Int) + 1) (segV m.h) v10_7)) ∧ IS wS .i64 m.va m.h.asks) ZK rfl rfl ?_
   apply Zu (L' := [Zy,Zz,Zz,Zz,Zz,Zz,Zz,Zz,Zz,Zz]) 0 (⟨Own.ik (zset hR hv1 hdn _ _ _ i) (H58.ok mem4), Own.iv (H58.ok mem5)⟩)
   ·intro wS sS
    refine Zm (Z01 ?_)
    exact Z04 rfl
   refine Z0N (L' := [Zy,Zy,Zz,Zz,Zz,Zz,Zz,Zz,Zz,Zz]) 1 rfl ZK ZK ZK rfl rfl rfl (⟨Own.ik (zset hR hv1 hdn _ _ _ i) (H58.ok mem4), Own.iv (H58.ok mem5)⟩) rfl ?_
   apply Zu (L' := [Zy,Zy,Zy,Zz,Zz,Zz,Zz,Zz,Zz,Zz]) 2 (⟨Own.ik (zset hR hv1 hdn _ _ _ i) (H58.ok mem4), Own.iv (H58.ok mem5)⟩)
   ·intro wS sS
    refine Z0D Z2f rfl rfl rfl ?_
    refine Z01 ?_
    exact Z04 rfl
   apply Zu (L' := [Zy,Zy,Zy,Zy,Zz,Zz,Zz,Zz,Zz,Zz]) 3 (⟨Own.ik (zset hR hv1 hdn _ _ _ i) (H58.ok mem4), Own.iv (H58.ok mem5)⟩)
   ·intro wS sS
    refine Z0R (j := i) (o := 2) (r := (zr m.va (m.h.line) ((m.h.nx : Int) + 1) (segV m.h) v10_7)) rfl rfl underlying3 rfl rfl hvh (sS.1) (zat hil _) rfl ?_
    refine Z01 ?_
    exact Z04 rfl
   apply Zu (L' := [Zy,Zy,Zy,Zy,Zy,Zz,Zz,Zz,Zz,Zz]) 4 (⟨Own.ik (zset hR hv1 hdn _ _ _ i) (H58.ok mem4), Own.iv (H58.ok mem5)⟩)
   ·intro wS sS
    refine Zm (Z01 ?_)
    exact Z04 rfl
   refine Z0N (L' := [Zy,Zy,Zy,Zy,Zy,Zy,Zz,Zz,Zz,Zz]) 5 rfl ZK ZK ZK rfl rfl rfl (⟨Own.ik (zset hR hv1 hdn _ _ _ i) (H58.ok mem4), Own.iv (H58.ok mem5)⟩) rfl ?_
   apply Zu (L' := [Zy,Zy,Zy,Zy,Zy,Zy,Zy,Zz,Zz,Zz]) 6 (⟨Own.ik (zset hR hv1 hdn _ _ _ i) (H58.ok mem4), Own.iv (H58.ok mem5)⟩)
   ·intro wS sS
    refine Z0D Z4q rfl rfl rfl ?_
    refine Z01 ?_
    exact Z04 rfl
   apply Zu (L' := [Zy,Zy,Zy,Zy,Zy,Zy,Zy,Zy,Zz,Zz]) 7 (⟨Own.ik (zset hR hv1 hdn _ _ _ i) (H58.ok mem4), Own.iv (H58.ok mem5)⟩)
   ·intro wS sS
    refine Z0R (j := i) (o := 0) (r := (zr m.va (m.h.line) ((m.h.nx : Int) + 1) (segV m.h) v10_7)) rfl rfl underlying34 rfl rfl hvh (sS.1) (zat hil _) rfl ?_
    refine Z01 ?_
    exact Z04 rfl
   refine Z0v (L' := [Zy,Zy,Zy,Zy,Zy,Zy,Zy,Zy,Zy,Zz]) 8 ZK rfl rfl ?_
   refine Z0u rfl rfl underlying34 rfl (Own.iv (H58.ok mem5) : IV _ m.va (ints .i64 m.h.asks)) ?_
   refine Z01 ?_
   refine Z0n (⟨Own.ik (zset hR hv1 hdn _ _ _ i) (H58.ok mem4), Own.iv (H58.ok mem5)⟩) ?_
   apply Zu (L' := [Zy,Zy,Zy,Zy,Zy,Zy,Zy,Zy,Zy,Zy]) 9 (⟨Own.ik (zset hR hv1 hdn _ _ _ i) (H58.ok mem4), Own.iv (H58.ok mem5)⟩)
   ·intro wS sS
    refine Ze ?_
    refine Z01 ?_
    exact Z04 rfl
   refine Z0B ZK ?_
   refine Z02 ?_
   refine Zk [4, 88] ?_
   (first | refine Z0c rfl ?_ ?_ | refine Z08 rfl ?_ ?_) <;> intro hc2
   ·refine Z00 (Zm (Z0b rfl rfl rfl ?_))
    refine Z0D Z2y rfl rfl rfl ?_
    refine Z1y (i := i) (o := 1) (R := Z.hs.map zrow) (r' := (zr m.va (4) ((m.h.nx : Int) + 1) (segV m.h) v10_7)) H58 (by repeat (first | exact .head | apply Upd.tail)) (zset hR hv1 hdn _ _ _ i) hil rfl (by decide) hvh rfl tz3 rfl rfl rfl (fun w59 H59 => ?_)
    refine Z01 ?_
    refine Z0F ?_
    try dsimp only
    refine Z1o results33 ?_
    refine ⟨_, rfl, ?_⟩
    have H64 := St.del (.tail (.tail (.tail (.tail .head)))) (St.del (.tail (.tail (.tail (.tail (.tail .head))))) (St.front5 (St.front5 (St.front5 H59))))
    exact ⟨v10_7, rfl, hdn, St.transS (H64.cast (Z2h hwf true ZO hnx hmh ZO (decide_eq_true ZO)))⟩
   refine Z0a ?_
   refine Z0F ?_
   try dsimp only
   refine Z1o results33 ?_
   refine ⟨_, rfl, ?_⟩
   have H69 := St.del (.tail (.tail (.tail (.tail .head)))) (St.del (.tail (.tail (.tail (.tail (.tail .head))))) (St.front5 (St.front5 (St.front5 H58))))
   exact ⟨v10_7, rfl, hdn, St.transS (H69.cast (Z2h hwf false ZO hnx hmh ZO (decide_eq_false ZO)))⟩
  refine Z2t H52 rfl rfl underlying47 ti85 rfl rfl rfl (fun b10_6 w70 H70 => ?_)
  refine Z01 ?_
  refine Z0n (H70.ok mem1) ?_
  refine Z0v (L' := [Zy,Zy,Zy,Zy,Zy,Zy,Zy,Zz,Zz,Zz,Zz]) 4 ZK rfl rfl ?_
  refine Z0R (j := i) (o := 4) (r := zr m.va m.h.line (m.h.nx : Int) (segV m.h) m.vd) rfl rfl underlying47 rfl rfl hvh (Own.ik (zset hR hv1 hd1 _ _ _ i) (H70.ok mem3)) (zat hil _) rfl ?_
  refine Z01 ?_
  refine Z0n (H70.ok mem1) ?_
  refine Z0v (L' := [Zy,Zy,Zy,Zy,Zy,Zy,Zy,Zy,Zz,Zz,Zz]) 7 ZK rfl rfl ?_
  have H71 := St.frontL (l := [_, _, _, _, _]) H70
  simp only [Zca, Zna] at H71
  refine Z19 (r := wrow (entS (m.h.asks.getD m.h.nx 0)).1) H71 rfl rfl underlying47 ti85 rfl rfl rfl rfl (Z1M (H71.ok mem1)) (by simp [Value.oneCell']) (by simp [Z0Y]; omega) (by simp [Z0Y]; omega) (fun v10_7 w72 H72 => ?_)
  refine Z01 ?_
  refine Z0n (H72.ok mem2) ?_
  refine Z0N (L' := [Zy,Zy,Zy,Zy,Zy,Zy,Zy,Zy,Zy,Zz,Zz]) 8 rfl ZK ZK ZK rfl rfl rfl (H72.ok mem2) rfl ?_
  apply Zu (L' := [Zy,Zy,Zy,Zy,Zy,Zy,Zy,Zy,Zy,Zy,Zz]) 9 (H72.ok mem2)
  ·intro wS sS
   refine Z0D Z4g rfl rfl rfl ?_
   refine Z01 ?_
   exact Z04 rfl
  refine Z0v (L' := [Zy,Zy,Zy,Zy,Zy,Zy,Zy,Zy,Zy,Zy,Zy]) 10 ZK rfl rfl ?_
  refine Z1y (i := i) (o := 4) (R := Z.hs.map zrow) (r' := (zr m.va (m.h.line) ((m.h.nx : Int)) (segV m.h) v10_7)) H72 (by repeat (first | exact .head | apply Upd.tail)) (zset hR hv1 hd1 _ _ _ i) hil rfl (by decide) hvh rfl tz47 rfl rfl (Z1v (H72.ok mem0)) (fun w73 H73 => ?_)
  refine Z01 ?_
  refine Z0n (H73.ok mem2) ?_
  refine Z0B ZK ?_
  refine Z02 ?_
  refine Zk [4] ?_
  refine Z03 (Z00 ?_)
  have hdn : v10_7.oneCell' = true := Z1v (H73.ok mem0)
  refine Zm (Z0b rfl rfl rfl ?_)
  refine Z0D Z2f rfl rfl rfl ?_
  refine Z0R (j := i) (o := 2) (r := (zr m.va (m.h.line) ((m.h.nx : Int)) (segV m.h) v10_7)) rfl rfl underlying3 rfl rfl hvh (Own.ik (zset hR hv1 hdn _ _ _ i) (H73.ok mem4)) (zat hil _) rfl ?_
  refine Z0y rfl rfl rfl rfl (Z0l ZO) ?_
  refine Z0b rfl rfl rfl ?_
  refine Z0D Z2f rfl rfl rfl ?_
  refine Z1y (i := i) (o := 2) (R := Z.hs.map zrow) (r' := (zr m.va (m.h.line) ((m.h.nx : Int) + 1) (segV m.h) v10_7)) H73 (by repeat (first | exact .head | apply Upd.tail)) (zset hR hv1 hdn _ _ _ i) hil rfl (by decide) hvh rfl tz3 rfl rfl rfl (fun w74 H74 => ?_)
  refine Z01 (Z02 ?_)
  refine Zk [4] ?_
  refine Z03 ?_
  have H75 := H74.drewn
  refine Z1a (n := 10) [Zz,Zz,Zz,Zz,Zz,Zz,Zz,Zz,Zz,Zz] (fun wS => IK wS 5 Z.vh ((Z.hs.map zrow).set i (zr m.va (m.h.line) ((m.h.nx : Int) + 1) (segV m.h) v10_7)) ∧ IS wS .i64 m.va m.h.asks) ZK rfl rfl ?_
  apply Zu (L' := [Zy,Zz,Zz,Zz,Zz,Zz,Zz,Zz,Zz,Zz]) 0 (⟨Own.ik (zset hR hv1 hdn _ _ _ i) (H75.ok mem4), Own.iv (H75.ok mem5)⟩)
  ·intro wS sS
   refine Zm (Z01 ?_)
   exact Z04 rfl
  refine Z0N (L' := [Zy,Zy,Zz,Zz,Zz,Zz,Zz,Zz,Zz,Zz]) 1 rfl ZK ZK ZK rfl rfl rfl (⟨Own.ik (zset hR hv1 hdn _ _ _ i) (H75.ok mem4), Own.iv (H75.ok mem5)⟩) rfl ?_
  apply Zu (L' := [Zy,Zy,Zy,Zz,Zz,Zz,Zz,Zz,Zz,Zz]) 2 (⟨Own.ik (zset hR hv1 hdn _ _ _ i) (H75.ok mem4), Own.iv (H75.ok mem5)⟩)
  ·intro wS sS
   refine Z0D Z2f rfl rfl rfl ?_
   refine Z01 ?_
   exact Z04 rfl
  apply Zu (L' := [Zy,Zy,Zy,Zy,Zz,Zz,Zz,Zz,Zz,Zz]) 3 (⟨Own.ik (zset hR hv1 hdn _ _ _ i) (H75.ok mem4), Own.iv (H75.ok mem5)⟩)
  ·intro wS sS
   refine Z0R (j := i) (o := 2) (r := (zr m.va (m.h.line) ((m.h.nx : Int) + 1) (segV m.h) v10_7)) rfl rfl underlying3 rfl rfl hvh (sS.1) (zat hil _) rfl ?_
   refine Z01 ?_
   exact Z04 rfl
  apply Zu (L' := [Zy,Zy,Zy,Zy,Zy,Zz,Zz,Zz,Zz,Zz]) 4 (⟨Own.ik (zset hR hv1 hdn _ _ _ i) (H75.ok mem4), Own.iv (H75.ok mem5)⟩)
  ·intro wS sS
   refine Zm (Z01 ?_)
   exact Z04 rfl
  refine Z0N (L' := [Zy,Zy,Zy,Zy,Zy,Zy,Zz,Zz,Zz,Zz]) 5 rfl ZK ZK ZK rfl rfl rfl (⟨Own.ik (zset hR hv1 hdn _ _ _ i) (H75.ok mem4), Own.iv (H75.ok mem5)⟩) rfl ?_
  apply Zu (L' := [Zy,Zy,Zy,Zy,Zy,Zy,Zy,Zz,Zz,Zz]) 6 (⟨Own.ik (zset hR hv1 hdn _ _ _ i) (H75.ok mem4), Own.iv (H75.ok mem5)⟩)
  ·intro wS sS
   refine Z0D Z4q rfl rfl rfl ?_
   refine Z01 ?_
   exact Z04 rfl
  apply Zu (L' := [Zy,Zy,Zy,Zy,Zy,Zy,Zy,Zy,Zz,Zz]) 7 (⟨Own.ik (zset hR hv1 hdn _ _ _ i) (H75.ok mem4), Own.iv (H75.ok mem5)⟩)
  ·intro wS sS
   refine Z0R (j := i) (o := 0) (r := (zr m.va (m.h.line) ((m.h.nx : Int) + 1) (segV m.h) v10_7)) rfl rfl underlying34 rfl rfl hvh (sS.1) (zat hil _) rfl ?_
   refine Z01 ?_
   exact Z04 rfl
  refine Z0v (L' := [Zy,Zy,Zy,Zy,Zy,Zy,Zy,Zy,Zy,Zz]) 8 ZK rfl rfl ?_
  refine Z0u rfl rfl underlying34 rfl (Own.iv (H75.ok mem5) : IV _ m.va (ints .i64 m.h.asks)) ?_
  refine Z01 ?_
  refine Z0n (⟨Own.ik (zset hR hv1 hdn _ _ _ i) (H75.ok mem4), Own.iv (H75.ok mem5)⟩) ?_
  apply Zu (L' := [Zy,Zy,Zy,Zy,Zy,Zy,Zy,Zy,Zy,Zy]) 9 (⟨Own.ik (zset hR hv1 hdn _ _ _ i) (H75.ok mem4), Own.iv (H75.ok mem5)⟩)
  ·intro wS sS
   refine Ze ?_
   refine Z01 ?_
   exact Z04 rfl
  refine Z0B ZK ?_
  refine Z02 ?_
  refine Zk [4, 88] ?_
  (first | refine Z0c rfl ?_ ?_ | refine Z08 rfl ?_ ?_) <;> intro hc2
  ·refine Z00 (Zm (Z0b rfl rfl rfl ?_))
   refine Z0D Z2y rfl rfl rfl ?_
   refine Z1y (i := i) (o := 1) (R := Z.hs.map zrow) (r' := (zr m.va (4) ((m.h.nx : Int) + 1) (segV m.h) v10_7)) H75 (by repeat (first | exact .head | apply Upd.tail)) (zset hR hv1 hdn _ _ _ i) hil rfl (by decide) hvh rfl tz3 rfl rfl rfl (fun w76 H76 => ?_)
   refine Z01 ?_
   refine Z0F ?_
   try dsimp only
   refine Z1o results33 ?_
   refine ⟨_, rfl, ?_⟩
   have H81 := St.del (.tail (.tail (.tail (.tail .head)))) (St.del (.tail (.tail (.tail (.tail (.tail .head))))) (St.front5 (St.front5 (St.front5 H76))))
   exact ⟨v10_7, rfl, hdn, St.transS (H81.cast (Z2h hwf true ZO hnx hmh ZO (decide_eq_true ZO)))⟩
  refine Z0a ?_
  refine Z0F ?_
  try dsimp only
  refine Z1o results33 ?_
  refine ⟨_, rfl, ?_⟩
  have H86 := St.del (.tail (.tail (.tail (.tail .head)))) (St.del (.tail (.tail (.tail (.tail (.tail .head))))) (St.front5 (St.front5 (St.front5 H75))))
  exact ⟨v10_7, rfl, hdn, St.transS (H86.cast (Z2h hwf false ZO hnx hmh ZO (decide_eq_false ZO)))⟩
 refine Z03 (Z00 ?_)
 refine Ze ?_
 refine Zg (Z01 (Z02 ?_))
 refine Zk [0, 4, 22, 92] ?_
 (first | refine Z0c rfl ?_ ?_ | refine Z08 rfl ?_ ?_) <;> intro hc3
 ·refine Z03 ?_
  have H87 := H1.drewn
  have hsv : segV m.h = (Z0x m.h : Int) := by unfold segV; rw [if_pos ZO]; exact hwb.1
  refine Z1a (n := 8) [Zz,Zz,Zz,Zz,Zz,Zz,Zz,Zz] (fun wS => True) ZK rfl rfl ?_
  apply Zu (L' := [Zy,Zz,Zz,Zz,Zz,Zz,Zz,Zz]) 0 (trivial)
  ·intro wS sS
   refine Zm (Z01 ?_)
   exact Z04 rfl
  refine Z0N (L' := [Zy,Zy,Zz,Zz,Zz,Zz,Zz,Zz]) 1 rfl ZK ZK ZK rfl rfl rfl (trivial) rfl ?_
  apply Zu (L' := [Zy,Zy,Zy,Zz,Zz,Zz,Zz,Zz]) 2 (trivial)
  ·intro wS sS
   refine Z09 Z3z rfl rfl rfl (Z01 ?_)
   exact Z04 rfl
  apply Zu (L' := [Zy,Zy,Zy,Zy,Zz,Zz,Zz,Zz]) 3 (trivial)
  ·intro wS sS
   refine Zm (Z01 ?_)
   exact Z04 rfl
  refine Z0N (L' := [Zy,Zy,Zy,Zy,Zy,Zz,Zz,Zz]) 4 rfl ZK ZK ZK rfl rfl rfl (trivial) rfl ?_
  apply Zu (L' := [Zy,Zy,Zy,Zy,Zy,Zy,Zz,Zz]) 5 (trivial)
  ·intro wS sS
   refine Z0D fo82_3 rfl rfl rfl ?_
   refine Z01 ?_
   exact Z04 rfl
  refine Z0v (L' := [Zy,Zy,Zy,Zy,Zy,Zy,Zy,Zz]) 6 ZK rfl rfl ?_
  refine Z0R (j := i) (o := 3) (r := zr m.va m.h.line (m.h.nx : Int) (segV m.h) m.vd) rfl rfl underlying3 rfl rfl hvh (Own.ik (zset hR hv1 hd1 _ _ _ i) (H87.ok mem1)) (zat hil _) rfl ?_
  refine Z0j (s := 100) (v' := .int .i64 ((Z0x m.h) : Int)) rfl (congrArg (Value.int .i64) hsv) ?_
  refine Z01 ?_
  refine Z0n (trivial) ?_
  refine Z0v (L' := [Zy,Zy,Zy,Zy,Zy,Zy,Zy,Zy]) 7 ZK rfl rfl ?_
  refine Z0I rfl rfl func62 rfl rfl (.cons rfl (.cons rfl .nil)) (LayR rb Z.vh _ _ _ (i : Int) hN41 (Z0x m.h) hwb.2 (by rw [la_at hwf hwb.2]; unfold laV; have := hsk.le; have := segLen_le6 ((Z0x m.h : Nat) : Int); omega) w1.drew (St.rows (τ := [_]) H87)) ?_
  rintro _ w88 ⟨rfl, hX2⟩
  have H88 := hX2 _ _ _ _ H87
  simp only [Zca, Zna] at H88
  refine Z01 ?_
  refine Z0n (trivial) ?_
  refine Z0B ZK ?_
  refine Z02 ?_
  refine Zk [4, 101] ?_
  (first | refine Z0c rfl ?_ ?_ | refine Z08 rfl ?_ ?_) <;> intro hc4
  ·refine Z00 (Zm (Z0b rfl rfl rfl ?_))
   refine Z0D Z2y rfl rfl rfl ?_
   refine Z1y (i := i) (o := 1) (R := Z.hs.map zrow) (r' := (zr m.va (3) ((m.h.nx : Int)) (segV m.h) m.vd)) H88 (by repeat (first | exact .head | apply Upd.tail)) (zset hR hv1 hd1 _ _ _ i) hil rfl (by decide) hvh rfl tz3 rfl rfl rfl (fun w89 H89 => ?_)
   refine Z01 ?_
   refine Z0F ?_
   try dsimp only
   refine Z1o results33 ?_
   refine ⟨_, rfl, ?_⟩
   have H93 := St.front3 (St.front3 (St.front3 (St.front3 H89)))
   exact ⟨m.vd, rfl, hd1, St.transS (H93.cast (fin_lay hwf true ZO (decide_eq_true (by first | assumption | omega))))⟩
  refine Z0a ?_
  refine Z0F ?_
  try dsimp only
  refine Z1o results33 ?_
  refine ⟨_, rfl, ?_⟩
  have H97 := St.front3 (St.front3 (St.front3 (St.front3 H88)))
  exact ⟨m.vd, rfl, hd1, St.transS (H97.cast (fin_lay hwf false ZO (decide_eq_false (by first | assumption | omega))))⟩
 refine Z03 (Z00 ?_)
 refine Ze ?_
 refine Zg (Z01 (Z02 ?_))
 refine Zk [0, 4, 105] ?_
 (first | refine Z0c rfl ?_ ?_ | refine Z08 rfl ?_ ?_) <;> intro hc5
 ·refine Z03 ?_
  have H98 := H1.drewn
  have hsv : segV m.h = (Z0x m.h : Int) := by unfold segV; rw [if_pos ZO]; exact hwb.1
  refine Z1a (n := 10) [Zz,Zz,Zz,Zz,Zz,Zz,Zz,Zz,Zz,Zz] (fun wS => True) ZK rfl rfl ?_
  apply Zu (L' := [Zy,Zz,Zz,Zz,Zz,Zz,Zz,Zz,Zz,Zz]) 0 (trivial)
  ·intro wS sS
   refine Zm (Z01 ?_)
   exact Z04 rfl
  refine Z0N (L' := [Zy,Zz,Zz,Zz,Zz,Zy,Zz,Zz,Zz,Zz]) 5 rfl ZK ZK ZK rfl rfl rfl (trivial) rfl ?_
  apply Zu (L' := [Zy,Zy,Zz,Zz,Zz,Zy,Zz,Zz,Zz,Zz]) 1 (trivial)
  ·intro wS sS
   refine Zm (Z01 ?_)
   exact Z04 rfl
  refine Z0N (L' := [Zy,Zy,Zy,Zz,Zz,Zy,Zz,Zz,Zz,Zz]) 2 rfl ZK ZK ZK rfl rfl rfl (trivial) rfl ?_
  apply Zu (L' := [Zy,Zy,Zy,Zy,Zz,Zy,Zz,Zz,Zz,Zz]) 3 (trivial)
  ·intro wS sS
   refine Z0D fo82_3 rfl rfl rfl ?_
   refine Z01 ?_
   exact Z04 rfl
  apply Zu (L' := [Zy,Zy,Zy,Zy,Zz,Zy,Zy,Zz,Zz,Zz]) 6 (trivial)
  ·intro wS sS
   refine Z09 Z3z rfl rfl rfl (Z01 ?_)
   exact Z04 rfl
  apply Zu (L' := [Zy,Zy,Zy,Zy,Zz,Zy,Zy,Zy,Zz,Zz]) 7 (trivial)
  ·intro wS sS
   refine Z09 fo78_0 rfl rfl rfl (Z01 ?_)
   exact Z04 rfl
  refine Z0v (L' := [Zy,Zy,Zy,Zy,Zy,Zy,Zy,Zy,Zz,Zz]) 4 ZK rfl rfl ?_
  refine Z0R (j := i) (o := 3) (r := zr m.va m.h.line (m.h.nx : Int) (segV m.h) m.vd) rfl rfl underlying3 rfl rfl hvh (Own.ik (zset hR hv1 hd1 _ _ _ i) (H98.ok mem1)) (zat hil _) rfl ?_
  refine Z0j (s := 111) (v' := .int .i64 ((Z0x m.h) : Int)) rfl (congrArg (Value.int .i64) hsv) ?_
  refine Z01 ?_
  refine Z0n (trivial) ?_
  apply Zu (L' := [Zy,Zy,Zy,Zy,Zy,Zy,Zy,Zy,Zy,Zz]) 8 (trivial)
  ·intro wS sS
   refine Z11 (j := (Z0x m.h)) (o := 1) (n := 1) rfl rfl underlying76 tz3 rfl rfl ZP hwb.2 ?_
   rw [Nat.mul_one]
   refine Z01 ?_
   exact Z04 rfl
  refine Z0v (L' := [Zy,Zy,Zy,Zy,Zy,Zy,Zy,Zy,Zy,Zy]) 9 ZK rfl rfl ?_
  refine Z0s H98 .head (zs_s hN41 hwb.2 2) rfl tz3 rfl rfl rfl (fun w99 H99 => ?_)
  refine Z01 ?_
  refine Z0n (trivial) ?_
  refine Z0B ZK ?_
  refine Z02 ?_
  refine Zk [4] ?_
  refine Z03 (Z00 (Zm (Z0b rfl rfl rfl ?_)))
  refine Z0D fo82_3 rfl rfl rfl ?_
  refine Z1y (i := i) (o := 3) (R := Z.hs.map zrow) (r' := (zr m.va (m.h.line) ((m.h.nx : Int)) (-1) m.vd)) H99 (by repeat (first | exact .head | apply Upd.tail)) (zset hR hv1 hd1 _ _ _ i) hil rfl (by decide) hvh rfl tz3 rfl rfl rfl (fun w100 H100 => ?_)
  refine Z01 (Z02 ?_)
  refine Zk [4] ?_
  refine Z00 (Zm (Z0b rfl rfl rfl ?_))
  refine Z0D Z2y rfl rfl rfl ?_
  refine Z1y (i := i) (o := 1) (R := Z.hs.map zrow) (r' := (zr m.va (1) ((m.h.nx : Int)) (-1) m.vd)) H100 (by repeat (first | exact .head | apply Upd.tail)) (zset hR hv1 hd1 _ _ _ i) hil rfl (by decide) hvh rfl tz3 rfl rfl rfl (fun w101 H101 => ?_)
  refine Z01 ?_
  refine Z0F ?_
  try dsimp only
  refine Z1o results33 ?_
  refine ⟨_, rfl, ?_⟩
  have H105 := St.front3 (St.front3 (St.front3 (St.front3 H101)))
  exact ⟨m.vd, rfl, hd1, St.transS (H105.cast (fin_show hwf ZO))⟩
 refine Z0a ?_
 refine Z0F ?_
 try dsimp only
 refine Z1o results33 ?_
 refine ⟨_, rfl, ?_⟩
 have H109 := St.front3 (St.front3 (St.front3 (St.front3 H1)))
 exact absurd hkl ZO
end Go.Proofs.YtgfkagaacdblbaaGreat.W
