/- walks of the document's segments; of what a hand wants, whether it may -/
import Derived.Test.YtgfkagaacdblbaaGreatZc
set_option linter.unusedVariables false
set_option linter.unusedSimpArgs false
set_option maxRecDepth 10000
namespace Go.Proofs.YtgfkagaacdblbaaGreat.W
open Go.Vc Go.RowKit Tryz
theorem N41.ss {S L B : List Int} (h : N41 S L B) (k : Nat) (x : Int) : N41 (S.set k x) L B := ⟨by simpa using h.s, h.l, h.b⟩
theorem N41.sl {S L B : List Int} (h : N41 S L B) (k : Nat) (x : Int) : N41 S (L.set k x) B := ⟨h.s, by simpa using h.l, h.b⟩
theorem N41.sb {S L B : List Int} (h : N41 S L B) (k : Nat) (x : Int) : N41 S L (B.set k x) := ⟨h.s, h.l, by simpa using h.b⟩
theorem getD_self {l : List Int} {k : Nat} (h : k < l.length) (x : Int) : (l.set k x).getD k 0 = x := by simp [List.getD, h]
theorem mayZ {Z : GDm} {i : Nat} {m : GDh} (hm : Z.hs[i]? = some m) : mayG Z.abs i = mayH m.h (sgN Z.abs (Z0x m.h)) := by
 unfold mayG
 rw [Z2L hm]
theorem stV_t {y : Sg} : stV y = 1 ↔ (y.done = false ∧ y.built ≠ 0) := by
 unfold stV
 split
 ·simp [*]
 split <;> simp [*]
theorem stV_0 {y : Sg} : stV y = 0 ↔ (y.done = false ∧ y.built = 0) := by
 unfold stV
 split
 ·simp [*]
 split <;> simp [*]
theorem stV_2 {y : Sg} : stV y = 2 ↔ y.done = true := by
 unfold stV
 split
 ·simp [*]
 split <;> simp [*]
theorem st_at {Z : GDm} (hw : Wf Z.abs) {s : Nat} (hs : s < 41) : (Z.sg.map stV).getD s 0 = stV (sgN Z.abs s) := Z4u (Z4w hw hs)
theorem la_at {Z : GDm} (hw : Wf Z.abs) {s : Nat} (hs : s < 41) : (Z.sg.map laV).getD s 0 = laV (sgN Z.abs s) := Z4u (Z4w hw hs)
theorem bu_at {Z : GDm} (hw : Wf Z.abs) {s : Nat} (hs : s < 41) : (Z.sg.map (·.built)).getD s 0 = (sgN Z.abs s).built := Z4u (f := (·.built)) (Z4w hw hs)
theorem may_st {Z : GDm} {m : GDh} (hl : m.h.line = 1) : mayH m.h (sgN Z.abs (Z0x m.h)) = decide (¬ stV (sgN Z.abs (Z0x m.h)) = 1) := by
 unfold mayH
 rw [if_pos hl]
 generalize sgN Z.abs (Z0x m.h) = y
 by_cases hd : y.done = true
 ·have : ¬ stV y = 1 := fun h => by rw [(stV_t.1 h).1] at hd; cases hd
  simp [hd, this]
 have hd : y.done = false := by simpa using hd
 by_cases hb : y.built = 0
 ·have : ¬ stV y = 1 := fun h => (stV_t.1 h).2 hb
  simp [hb, this]
 have : stV y = 1 := stV_t.2 ⟨hd, hb⟩
 simp [hd, hb, this]
theorem TakeR (rb : Nat) (vh : Value) (S L B : List Int) (la : Int) (hN : N41 S L B) (k : Nat) (hk : k < 41) (hB : 0 ≤ B.getD k 0 ∧ B.getD k 0 ≤ 1000) (w : World) (hS : Sep w.heap.size (fps [As.blk rb 80 (zcC vh S L B la)]) w [As.blk rb 80 (zcC vh S L B la)]) :
  Z0f P 60 [.pointer (some ⟨rb, 1, none⟩), .int .i64 (k : Int)] w fun r w' => r = .tuple #[] ∧ Z1C w w' [As.blk rb 80 (zcC vh S L B la)] [As.blk rb 80 (zcC vh (S.set k 1) (L.set k 0) (B.set k (B.getD k 0 + 1)) la)] := by
 refine Z0o func60 rfl ntmps60 rfl ?_
 have H0 : St w w.heap.size (fps [As.blk rb 80 (zcC vh S L B la)]) [As.blk rb 80 (zcC vh S L B la)] w := St.startS hS
 refine Z03 (Z00 (Zm (Zm (Z0b rfl rfl rfl (Z09 fo78_0 rfl rfl rfl ?_)))))
 refine Z11 (j := k) (o := 1) (n := 1) rfl rfl underlying76 tz3 rfl rfl ZP hk ?_
 rw [Nat.mul_one]
 refine Z0s H0 .head (zs_s hN hk 1) rfl tz3 rfl rfl rfl (fun w1 H1 => ?_)
 refine Z01 (Z02 ?_)
 refine Zk [0, 1] ?_
 refine Z03 (Z00 (Zm (Zm (Z0b rfl rfl rfl (Z09 fo78_1 rfl rfl rfl ?_)))))
 refine Z11 (j := k) (o := 42) (n := 1) rfl rfl underlying76 tz3 rfl rfl ZP hk ?_
 rw [Nat.mul_one]
 refine Z0s H1 .head (zs_l (hN.ss k 1) hk 0) rfl tz3 rfl rfl rfl (fun w2 H2 => ?_)
 refine Z01 (Z02 ?_)
 refine Zk [0, 1] ?_
 have H3 := H2.drewn
 refine Z1a (n := 11) [Zz,Zz,Zz,Zz,Zz,Zz,Zz,Zz,Zz,Zz,Zz] (fun wS => True) ZK rfl rfl ?_
 apply Zu (L' := [Zy,Zz,Zz,Zz,Zz,Zz,Zz,Zz,Zz,Zz,Zz]) 0 (trivial)
 ·intro wS sS
  refine Zm (Z01 ?_)
  exact Z04 rfl
 refine Z0N (L' := [Zy,Zz,Zy,Zz,Zz,Zz,Zz,Zz,Zz,Zz,Zz]) 2 rfl ZK ZK ZK rfl rfl rfl (trivial) rfl ?_
 refine Z0N (L' := [Zy,Zz,Zy,Zz,Zz,Zz,Zz,Zy,Zz,Zz,Zz]) 7 rfl ZK ZK ZK rfl rfl rfl (trivial) rfl ?_
 apply Zu (L' := [Zy,Zy,Zy,Zz,Zz,Zz,Zz,Zy,Zz,Zz,Zz]) 1 (trivial)
 ·intro wS sS
  refine Zm (Z01 ?_)
  exact Z04 rfl
 apply Zu (L' := [Zy,Zy,Zy,Zy,Zz,Zz,Zz,Zy,Zz,Zz,Zz]) 3 (trivial)
 ·intro wS sS
  refine Z09 fo78_2 rfl rfl rfl (Z01 ?_)
  exact Z04 rfl
 apply Zu (L' := [Zy,Zy,Zy,Zy,Zy,Zz,Zz,Zy,Zz,Zz,Zz]) 4 (trivial)
 ·intro wS sS
  refine Z11 (j := k) (o := 83) (n := 1) rfl rfl underlying76 tz3 rfl rfl ZP hk ?_
  rw [Nat.mul_one]
  refine Z01 ?_
  exact Z04 rfl
 apply Zu (L' := [Zy,Zy,Zy,Zy,Zy,Zz,Zz,Zy,Zy,Zz,Zz]) 8 (trivial)
 ·intro wS sS
  refine Z09 fo78_2 rfl rfl rfl (Z01 ?_)
  exact Z04 rfl
 refine Z0v (L' := [Zy,Zy,Zy,Zy,Zy,Zy,Zz,Zy,Zy,Zz,Zz]) 5 ZK rfl rfl ?_
 refine Z05 (Z0r (H3.ok mem0)) mem0 rfl rfl underlying3 rfl rfl (zc_b ((hN.ss k 1).sl k 0) hk) ?_
 refine Z01 ?_
 refine Z0n (trivial) ?_
 apply Zu (L' := [Zy,Zy,Zy,Zy,Zy,Zy,Zy,Zy,Zy,Zz,Zz]) 6 (trivial)
 ·intro wS sS
  refine Z0y rfl rfl rfl rfl (Z0l ZO) ?_
  refine Z01 ?_
  exact Z04 rfl
 apply Zu (L' := [Zy,Zy,Zy,Zy,Zy,Zy,Zy,Zy,Zy,Zy,Zz]) 9 (trivial)
 ·intro wS sS
  refine Z11 (j := k) (o := 83) (n := 1) rfl rfl underlying76 tz3 rfl rfl ZP hk ?_
  rw [Nat.mul_one]
  refine Z01 ?_
  exact Z04 rfl
 refine Z0v (L' := [Zy,Zy,Zy,Zy,Zy,Zy,Zy,Zy,Zy,Zy,Zy]) 10 ZK rfl rfl ?_
 refine Z0s H3 .head (zs_b ((hN.ss k 1).sl k 0) hk (B.getD k 0 + 1)) rfl tz3 rfl rfl rfl (fun w4 H4 => ?_)
 refine Z01 ?_
 refine Z0n (trivial) ?_
 refine Z0B ZK ?_
 try dsimp only
 refine Z1o results60 ?_
 refine ⟨_, rfl, ?_⟩
 exact ⟨rfl, H4.transS⟩
theorem LayR (rb : Nat) (vh : Value) (S L B : List Int) (la : Int) (hN : N41 S L B) (k : Nat) (hk : k < 41) (hL : 0 ≤ L.getD k 0 ∧ L.getD k 0 ≤ 1000) (w : World) (hS : Sep w.heap.size (fps [As.blk rb 80 (zcC vh S L B la)]) w [As.blk rb 80 (zcC vh S L B la)]) :
  Z0f P 62 [.pointer (some ⟨rb, 1, none⟩), .int .i64 (k : Int)] w fun r w' => r = .bool (decide (L.getD k 0 + 1 = (Z0M (k : Int)).2.1)) ∧ Z1C w w' [As.blk rb 80 (zcC vh S L B la)] [As.blk rb 80 (zcC vh S (L.set k (L.getD k 0 + 1)) B la)] := by
 refine Z0o func62 rfl ntmps62 rfl ?_
 have H0 : St w w.heap.size (fps [As.blk rb 80 (zcC vh S L B la)]) [As.blk rb 80 (zcC vh S L B la)] w := St.startS hS
 refine Z03 (Z00 (Zg (Z01 (Z02 ?_))))
 refine Zk [0, 1] ?_
 refine Z03 (Z00 (Zm ?_))
 refine Zp func76 (firstR (k : Int) ZO _) ?_
 refine Zm ?_
 refine Zx (Zx (Zx (Zg (Zg (Zg (Z01 (Z02 ?_)))))))
 refine Zk [0, 1, 6] ?_
 refine Z03 ?_
 have H1 := H0.drewn
 refine Z1a (n := 11) [Zz,Zz,Zz,Zz,Zz,Zz,Zz,Zz,Zz,Zz,Zz] (fun wS => True) ZK rfl rfl ?_
 apply Zu (L' := [Zy,Zz,Zz,Zz,Zz,Zz,Zz,Zz,Zz,Zz,Zz]) 0 (trivial)
 ·intro wS sS
  refine Zm (Z01 ?_)
  exact Z04 rfl
 refine Z0N (L' := [Zy,Zz,Zy,Zz,Zz,Zz,Zz,Zz,Zz,Zz,Zz]) 2 rfl ZK ZK ZK rfl rfl rfl (trivial) rfl ?_
 refine Z0N (L' := [Zy,Zz,Zy,Zz,Zz,Zz,Zz,Zy,Zz,Zz,Zz]) 7 rfl ZK ZK ZK rfl rfl rfl (trivial) rfl ?_
 apply Zu (L' := [Zy,Zy,Zy,Zz,Zz,Zz,Zz,Zy,Zz,Zz,Zz]) 1 (trivial)
 ·intro wS sS
  refine Zm (Z01 ?_)
  exact Z04 rfl
 apply Zu (L' := [Zy,Zy,Zy,Zy,Zz,Zz,Zz,Zy,Zz,Zz,Zz]) 3 (trivial)
 ·intro wS sS
  refine Z09 fo78_1 rfl rfl rfl (Z01 ?_)
  exact Z04 rfl
 apply Zu (L' := [Zy,Zy,Zy,Zy,Zy,Zz,Zz,Zy,Zz,Zz,Zz]) 4 (trivial)
 ·intro wS sS
  refine Z11 (j := k) (o := 42) (n := 1) rfl rfl underlying76 tz3 rfl rfl ZP hk ?_
  rw [Nat.mul_one]
  refine Z01 ?_
  exact Z04 rfl
 apply Zu (L' := [Zy,Zy,Zy,Zy,Zy,Zz,Zz,Zy,Zy,Zz,Zz]) 8 (trivial)
 ·intro wS sS
  refine Z09 fo78_1 rfl rfl rfl (Z01 ?_)
  exact Z04 rfl
 refine Z0v (L' := [Zy,Zy,Zy,Zy,Zy,Zy,Zz,Zy,Zy,Zz,Zz]) 5 ZK rfl rfl ?_
 refine Z05 (Z0r (H1.ok mem0)) mem0 rfl rfl underlying3 rfl rfl (zc_l hN hk) ?_
 refine Z01 ?_
 refine Z0n (trivial) ?_
 apply Zu (L' := [Zy,Zy,Zy,Zy,Zy,Zy,Zy,Zy,Zy,Zz,Zz]) 6 (trivial)
 ·intro wS sS
  refine Z0y rfl rfl rfl rfl (Z0l ZO) ?_
  refine Z01 ?_
  exact Z04 rfl
 apply Zu (L' := [Zy,Zy,Zy,Zy,Zy,Zy,Zy,Zy,Zy,Zy,Zz]) 9 (trivial)
 ·intro wS sS
  refine Z11 (j := k) (o := 42) (n := 1) rfl rfl underlying76 tz3 rfl rfl ZP hk ?_
  rw [Nat.mul_one]
  refine Z01 ?_
  exact Z04 rfl
 refine Z0v (L' := [Zy,Zy,Zy,Zy,Zy,Zy,Zy,Zy,Zy,Zy,Zy]) 10 ZK rfl rfl ?_
 refine Z0s H1 .head (zs_l hN hk (L.getD k 0 + 1)) rfl tz3 rfl rfl rfl (fun w2 H2 => ?_)
 refine Z01 ?_
 refine Z0n (trivial) ?_
 refine Z0B ZK ?_
 refine Z02 ?_
 refine Zk [0, 1, 6] ?_
 refine Z03 (Z00 (Zm (Zm (Z0b rfl rfl rfl (Z09 fo78_1 rfl rfl rfl ?_)))))
 refine Z11 (j := k) (o := 42) (n := 1) rfl rfl underlying76 tz3 rfl rfl ZP hk ?_
 rw [Nat.mul_one]
 refine Z05 (Z0r (H2.ok mem0)) mem0 rfl rfl underlying3 rfl rfl (zc_l (hN.sl k (L.getD k 0 + 1)) hk) ?_
 refine Z0j (s := 29) (v' := .int .i64 (L.getD k 0 + 1)) rfl (congrArg (Value.int .i64) (by rw [getD_self (by rw [hN.l]; exact hk)])) ?_
 refine Zm ?_
 refine Ze ?_
 refine Zg (Z01 (Z02 ?_))
 refine Zk [4] ?_
 refine Z0i ?_
 refine Z0e results62 rfl ?_
 refine ⟨_, rfl, ?_⟩
 exact ⟨rfl, H2.transS⟩
theorem wantsR (i : Nat) (m : GDh) (vh : Value) (R : List (List Value)) (hrow : R[i]? = some (zrow m)) (hnx : m.h.nx < m.h.asks.length) (hRg : Rg (-342) 308 m.h.asks) (Ah : Addr) (ch : Nat) (hvh : vh = .slice (some Ah) R.length ch) (w : World) (hh : IK w 5 vh R) (hva : IV w m.va (ints .i64 m.h.asks)) :
  Z0f P 59 [.pointer (some (Ah.add (i * 5)))] w fun r w' => r = .int .i64 (Z1d m.h) ∧ Grow w w' [] := by
 refine Z0o func59 rfl ntmps59 rfl ?_
 have H0 := St.start w
 refine Z03 (Z00 (Zg (Z01 (Z02 ?_))))
 refine Zk [0] ?_
 refine Z03 ?_
 have H1 := H0.drewn
 obtain ⟨A1, c1, hv1⟩ := (H1.iarg hva).lies (by simp; omega)
 have hq0 := hRg.get hnx
 refine Z1a (n := 18) [Zz,Zz,Zz,Zz,Zz,Zz,Zz,Zz,Zz,Zz,Zz,Zz,Zz,Zz,Zz,Zz,Zz,Zz] (fun wS => IK wS 5 vh R ∧ IS wS .i64 m.va m.h.asks) ZK rfl rfl ?_
 apply Zu (L' := [Zy,Zz,Zz,Zz,Zz,Zz,Zz,Zz,Zz,Zz,Zz,Zz,Zz,Zz,Zz,Zz,Zz,Zz]) 0 (⟨H1.ikarg hh, H1.iarg hva⟩)
 ·intro wS sS
  refine Zm (Z01 ?_)
  exact Z04 rfl
 refine Z0N (L' := [Zy,Zy,Zz,Zz,Zz,Zz,Zz,Zz,Zz,Zz,Zz,Zz,Zz,Zz,Zz,Zz,Zz,Zz]) 1 rfl ZK ZK ZK rfl rfl rfl (⟨H1.ikarg hh, H1.iarg hva⟩) rfl ?_
 apply Zu (L' := [Zy,Zy,Zy,Zz,Zz,Zz,Zz,Zz,Zz,Zz,Zz,Zz,Zz,Zz,Zz,Zz,Zz,Zz]) 2 (⟨H1.ikarg hh, H1.iarg hva⟩)
 ·intro wS sS
  refine Z0D Z4q rfl rfl rfl ?_
  refine Z01 ?_
  exact Z04 rfl
 apply Zu (L' := [Zy,Zy,Zy,Zy,Zz,Zz,Zz,Zz,Zz,Zz,Zz,Zz,Zz,Zz,Zz,Zz,Zz,Zz]) 3 (⟨H1.ikarg hh, H1.iarg hva⟩)
 ·intro wS sS
  refine Z0R (j := i) (o := 0) (r := zrow m) rfl rfl underlying34 rfl rfl hvh (sS.1) hrow rfl ?_
  refine Z01 ?_
  exact Z04 rfl
 apply Zu (L' := [Zy,Zy,Zy,Zy,Zy,Zz,Zz,Zz,Zz,Zz,Zz,Zz,Zz,Zz,Zz,Zz,Zz,Zz]) 4 (⟨H1.ikarg hh, H1.iarg hva⟩)
 ·intro wS sS
  refine Zm (Z01 ?_)
  exact Z04 rfl
 refine Z0N (L' := [Zy,Zy,Zy,Zy,Zy,Zy,Zz,Zz,Zz,Zz,Zz,Zz,Zz,Zz,Zz,Zz,Zz,Zz]) 5 rfl ZK ZK ZK rfl rfl rfl (⟨H1.ikarg hh, H1.iarg hva⟩) rfl ?_
 apply Zu (L' := [Zy,Zy,Zy,Zy,Zy,Zy,Zy,Zz,Zz,Zz,Zz,Zz,Zz,Zz,Zz,Zz,Zz,Zz]) 6 (⟨H1.ikarg hh, H1.iarg hva⟩)
 ·intro wS sS
  refine Z0D Z2f rfl rfl rfl ?_
  refine Z01 ?_
  exact Z04 rfl
 apply Zu (L' := [Zy,Zy,Zy,Zy,Zy,Zy,Zy,Zy,Zz,Zz,Zz,Zz,Zz,Zz,Zz,Zz,Zz,Zz]) 7 (⟨H1.ikarg hh, H1.iarg hva⟩)
 ·intro wS sS
  refine Z0R (j := i) (o := 2) (r := zrow m) rfl rfl underlying3 rfl rfl hvh (sS.1) hrow rfl ?_
  refine Z01 ?_
  exact Z04 rfl
 apply Zu (L' := [Zy,Zy,Zy,Zy,Zy,Zy,Zy,Zy,Zy,Zz,Zz,Zz,Zz,Zz,Zz,Zz,Zz,Zz]) 8 (⟨H1.ikarg hh, H1.iarg hva⟩)
 ·intro wS sS
  refine Z1c (j := m.h.nx) rfl rfl underlying34 tz3 rfl rfl hv1 ZP ZI ?_
  refine Z01 ?_
  exact Z04 rfl
 apply Zu (L' := [Zy,Zy,Zy,Zy,Zy,Zy,Zy,Zy,Zy,Zy,Zz,Zz,Zz,Zz,Zz,Zz,Zz,Zz]) 9 (⟨H1.ikarg hh, H1.iarg hva⟩)
 ·intro wS sS
  refine Z1u rfl rfl underlying3 rfl hv1 (by first | exact sS.2 | exact H1.iarg hva | assumption) ZA ZI (fun hb1_9 => ?_)
  refine Z01 ?_
  exact Z04 rfl
 refine Z0v (L' := [Zy,Zy,Zy,Zy,Zy,Zy,Zy,Zy,Zy,Zy,Zy,Zz,Zz,Zz,Zz,Zz,Zz,Zz]) 10 ZK rfl rfl ?_
 refine Zp func30 (whereR (m.h.asks.getD m.h.nx 0) ZO _) ?_
 refine Z01 ?_
 refine Z0n (⟨H1.ikarg hh, H1.iarg hva⟩) ?_
 apply Zu (L' := [Zy,Zy,Zy,Zy,Zy,Zy,Zy,Zy,Zy,Zy,Zy,Zy,Zz,Zz,Zz,Zz,Zz,Zz]) 11 (⟨H1.ikarg hh, H1.iarg hva⟩)
 ·intro wS sS
  refine Zm (Z01 ?_)
  exact Z04 rfl
 apply Zu (L' := [Zy,Zy,Zy,Zy,Zy,Zy,Zy,Zy,Zy,Zy,Zy,Zy,Zy,Zz,Zz,Zz,Zz,Zz]) 12 (⟨H1.ikarg hh, H1.iarg hva⟩)
 ·intro wS sS
  refine Zx (Z01 ?_)
  exact Z04 rfl
 apply Zu (L' := [Zy,Zy,Zy,Zy,Zy,Zy,Zy,Zy,Zy,Zy,Zy,Zy,Zy,Zy,Zz,Zz,Zz,Zz]) 13 (⟨H1.ikarg hh, H1.iarg hva⟩)
 ·intro wS sS
  refine Zx (Z01 ?_)
  exact Z04 rfl
 apply Zu (L' := [Zy,Zy,Zy,Zy,Zy,Zy,Zy,Zy,Zy,Zy,Zy,Zy,Zy,Zy,Zy,Zz,Zz,Zz]) 14 (⟨H1.ikarg hh, H1.iarg hva⟩)
 ·intro wS sS
  refine Zx (Z01 ?_)
  exact Z04 rfl
 apply Zu (L' := [Zy,Zy,Zy,Zy,Zy,Zy,Zy,Zy,Zy,Zy,Zy,Zy,Zy,Zy,Zy,Zy,Zz,Zz]) 15 (⟨H1.ikarg hh, H1.iarg hva⟩)
 ·intro wS sS
  refine Zg (Z01 ?_)
  exact Z04 rfl
 apply Zu (L' := [Zy,Zy,Zy,Zy,Zy,Zy,Zy,Zy,Zy,Zy,Zy,Zy,Zy,Zy,Zy,Zy,Zy,Zz]) 16 (⟨H1.ikarg hh, H1.iarg hva⟩)
 ·intro wS sS
  refine Zg (Z01 ?_)
  exact Z04 rfl
 apply Zu (L' := [Zy,Zy,Zy,Zy,Zy,Zy,Zy,Zy,Zy,Zy,Zy,Zy,Zy,Zy,Zy,Zy,Zy,Zy]) 17 (⟨H1.ikarg hh, H1.iarg hva⟩)
 ·intro wS sS
  refine Zg (Z01 ?_)
  exact Z04 rfl
 refine Z0B ZK ?_
 refine Z02 ?_
 refine Zk [3] ?_
 refine Z03 (Z00 (Zm (Zg (Z01 (Z02 ?_)))))
 refine Zk [2] ?_
 refine Z0i ?_
 refine Z0e results59 rfl ?_
 refine ⟨_, rfl, ?_⟩
 exact ⟨rfl, H1.grows⟩
theorem canR (rb : Nat) (Z : GDm) (hwf : Wf Z.abs) (i : Nat) (hi : i < Z.hs.length) (w : World) (hZF : GDF rb Z w) :
  Z0f P 37 [ptr rb, .int .i64 (i : Int)] w fun r w' => r = .bool (mayG Z.abs i) ∧ Grow w w' [] := by
 refine Z0o func37 rfl ntmps37 rfl ?_
 have H0 := St.start w
 have hn16 : Z.hs.length ≤ 16 := by simpa [GDm.abs] using hwf.n16
 have hN41 := WfZ.n41 hwf
 refine Z03 (Z00 (Zg (Z01 (Z02 ?_))))
 refine Zk [0, 1] ?_
 refine Z03 (Z00 (Zm (Z0b rfl rfl rfl (Z09 Z24 rfl rfl rfl ?_))))
 refine Z05 (Z0r ((hZF.arg H0).hb)) mem0 rfl rfl underlying75 rfl rfl rfl ?_
 obtain ⟨m, hm⟩ : ∃ m, Z.hs[i]? = some m := ⟨_, List.getElem?_eq_getElem ZO⟩
 obtain ⟨⟨Ah, ch, hvh⟩, hrow, hil⟩ := zsl hm (hZF.arg H0).hh
 have hzl : (Z.hs.map zrow).length = Z.hs.length := List.length_map _
 have hok := hwf.hd i m.h (Z2L hm)
 have hwb := Z1G m.h
 refine Zm ?_
 refine Z1s (j := i) rfl rfl underlying75 tz82 (by decide) rfl rfl ((hZF.arg H0).hh) hvh ZP (by rw [hzl]; exact hi) ?_
 refine Zg (Z01 (Z02 ?_))
 refine Zk [0, 5] ?_
 refine Z03 (Z03 (Z00 (Zm (Z0b rfl rfl rfl ?_))))
 refine Z0D Z2y rfl rfl rfl ?_
 refine Z0R (j := i) (o := 1) (r := zrow m) rfl rfl underlying3 rfl rfl hvh ((hZF.arg H0).hh) hrow rfl ?_
 refine Ze ?_
 refine Z01 (Z02 ?_)
 refine Zk [0, 5, 16] ?_
 (first | refine Z0c rfl ?_ ?_ | refine Z08 rfl ?_ ?_) <;> intro hc0
 ·refine Z03 ?_
  have H1 := H0.drewn
  refine Z1a (n := 10) [Zz,Zz,Zz,Zz,Zz,Zz,Zz,Zz,Zz,Zz] (fun wS => (As.blk rb 80 (zC Z)).ok wS) ZK rfl rfl ?_
  apply Zu (L' := [Zy,Zz,Zz,Zz,Zz,Zz,Zz,Zz,Zz,Zz]) 0 ((hZF.arg H1).hb)
  ·intro wS sS
   refine Zm (Z01 ?_)
   exact Z04 rfl
  refine Z0N (L' := [Zy,Zz,Zz,Zy,Zz,Zz,Zz,Zz,Zz,Zz]) 3 rfl ZK ZK ZK rfl rfl rfl ((hZF.arg H1).hb) rfl ?_
  apply Zu (L' := [Zy,Zy,Zz,Zy,Zz,Zz,Zz,Zz,Zz,Zz]) 1 ((hZF.arg H1).hb)
  ·intro wS sS
   refine Zm (Z01 ?_)
   exact Z04 rfl
  apply Zu (L' := [Zy,Zy,Zz,Zy,Zy,Zz,Zz,Zz,Zz,Zz]) 4 ((hZF.arg H1).hb)
  ·intro wS sS
   refine Z09 Z3z rfl rfl rfl (Z01 ?_)
   exact Z04 rfl
  apply Zu (L' := [Zy,Zy,Zz,Zy,Zy,Zy,Zz,Zz,Zz,Zz]) 5 ((hZF.arg H1).hb)
  ·intro wS sS
   refine Z09 fo78_0 rfl rfl rfl (Z01 ?_)
   exact Z04 rfl
  refine Z0v (L' := [Zy,Zy,Zy,Zy,Zy,Zy,Zz,Zz,Zz,Zz]) 2 ZK rfl rfl ?_
  refine Zc func59 (wantsR i m Z.vh (Z.hs.map zrow) hrow (hok.nx ZO) hok.q Ah ch (by rw [hzl]; exact hvh) w.drew (hZF.arg H1).hh ((hZF.arg H1).va hm)) ?_
  rintro _ w2 ⟨rfl, hG⟩
  have H2 := hG _ _ _ _ H1
  simp only [Zca, Zna] at H2
  refine Z01 ?_
  refine Z0n ((hZF.arg H2).hb) ?_
  apply Zu (L' := [Zy,Zy,Zy,Zy,Zy,Zy,Zy,Zz,Zz,Zz]) 6 ((hZF.arg H2).hb)
  ·intro wS sS
   refine Z0j (s := 19) (v' := .int .i64 (Z0x m.h : Int)) rfl (congrArg (Value.int .i64) hwb.1) ?_
   refine Z11 (j := Z0x m.h) (o := 1) (n := 1) rfl rfl underlying76 tz3 rfl rfl ZP hwb.2 ?_
   rw [Nat.mul_one]
   refine Z01 ?_
   exact Z04 rfl
  apply Zu (L' := [Zy,Zy,Zy,Zy,Zy,Zy,Zy,Zy,Zz,Zz]) 7 ((hZF.arg H2).hb)
  ·intro wS sS
   refine Z05 (Z0r (sS)) mem0 rfl rfl underlying3 rfl rfl (zc_s hN41 hwb.2) ?_
   refine Z0j (s := 24) (v' := .int .i64 (stV (sgN Z.abs (Z0x m.h)))) rfl (by rw [st_at hwf hwb.2]) ?_
   refine Z01 ?_
   exact Z04 rfl
  apply Zu (L' := [Zy,Zy,Zy,Zy,Zy,Zy,Zy,Zy,Zy,Zz]) 8 ((hZF.arg H2).hb)
  ·intro wS sS
   refine Zo ?_
   refine Z01 ?_
   exact Z04 rfl
  apply Zu (L' := [Zy,Zy,Zy,Zy,Zy,Zy,Zy,Zy,Zy,Zy]) 9 ((hZF.arg H2).hb)
  ·intro wS sS
   refine Zg (Z01 ?_)
   exact Z04 rfl
  refine Z0B ZK ?_
  refine Z02 ?_
  refine Zk [4] ?_
  refine Z0i ?_
  refine Z07 ?_
  refine Z0e results37 rfl ?_
  refine ⟨_, rfl, ?_⟩
  refine ⟨congrArg Value.bool ?_, H2.grows⟩
  rw [mayZ hm, may_st ZO]
 refine Z0a (Z02 ?_)
 refine Zk [5] ?_
 refine Z03 (Z00 (Zm (Z0b rfl rfl rfl ?_)))
 refine Z0D Z2y rfl rfl rfl ?_
 refine Z0R (j := i) (o := 1) (r := zrow m) rfl rfl underlying3 rfl rfl hvh ((hZF.arg H0).hh) hrow rfl ?_
 refine Zo ?_
 refine Zg (Z01 (Z02 ?_))
 refine Zk [4] ?_
 refine Z0i ?_
 refine Z0e results37 rfl ?_
 refine ⟨_, rfl, ?_⟩
 refine ⟨congrArg Value.bool ?_, H0.grows⟩
 rw [mayZ hm]
 unfold mayH
 rw [if_neg ZO]
 have := hok.line
 exact decide_eq_decide.2 ZO
end Go.Proofs.YtgfkagaacdblbaaGreat.W
