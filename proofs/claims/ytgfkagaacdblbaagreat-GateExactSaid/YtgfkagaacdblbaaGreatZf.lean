/- the document's gate: a step in its world; what it tells -/
import Derived.Test.YtgfkagaacdblbaaGreatZe
set_option linter.unusedVariables false
set_option linter.unusedSimpArgs false
set_option maxRecDepth 10000
namespace Go.Proofs.YtgfkagaacdblbaaGreat.W
open Go.Vc Go.RowKit Tryz
def LaOk (Z : GDm) : Prop := -1 ≤ Z.la ∧ Z.la ≤ 16
theorem zw_open {w0 w : World} {B : Nat} {M : Nat → Prop} {σ O : List As} {rb i : Nat} {Z : GDm} {m : GDh} (hm : Z.hs[i]? = some m) (hp : (Z2m Z).Perm (Z3A m ++ O)) (h : St w0 B M (zW rb Z ++ σ) w) : St w0 B M (zD0 rb Z i m ++ (As.sep O :: σ)) w := by
 have h1 := St.frontL (l := [_, _]) h
 have h2 := Z2z (l := Z3A m) hp h1
 have h3 : St w0 B M ((([As.blk rb 80 (zC Z), As.rk 82 5 Z.vh (Z.hs.map zrow)] ++ [As.ri 3 .i64 m.va m.h.asks, As.rk 85 2 m.vd (Z0Y (m.h.asks.take m.h.nx)), As.sep O])) ++ σ) w := St.perm ((List.perm_append_comm (l₁ := [As.ri 3 .i64 m.va m.h.asks, As.rk 85 2 m.vd (Z0Y (m.h.asks.take m.h.nx)), As.sep O]) (l₂ := [As.blk rb 80 (zC Z), As.rk 82 5 Z.vh (Z.hs.map zrow)])).append_right σ) h2
 have e : (Z.hs.map zrow).set i (zrow m) = Z.hs.map zrow := Z36 (by rw [List.getElem?_map, hm]; rfl)
 unfold zD0 zD
 rw [e]
 exact h3
theorem zw_close {w0 w : World} {B : Nat} {M : Nat → Prop} {σ O : List As} {rb i : Nat} {Z : GDm} {m : GDh} {y1 : Sg} {s : Nat} {m1 : GDh} (e1 : m1.va = m.va) (e2 : m1.h.asks = m.h.asks) (hp : (Z3A m1 ++ O).Perm (Z2m (GDDo Z i m1 s y1)))
  (h : St w0 B M (zD rb (zC (GDDo Z i m1 s y1)) Z.vh ((Z.hs.map zrow).set i (zrow m1)) m.va m.h.asks m1.vd (Z0Y (m.h.asks.take m1.h.nx)) ++ (As.sep O :: σ)) w) : St w0 B M (zW rb (GDDo Z i m1 s y1) ++ σ) w := by
 rw [← e1, ← e2, ← List.map_set] at h
 have h2 := St.perm ((List.perm_append_comm (l₁ := [As.blk rb 80 (zC (GDDo Z i m1 s y1)), As.rk 82 5 Z.vh ((Z.hs.set i m1).map zrow)]) (l₂ := [As.ri 3 .i64 m1.va m1.h.asks, As.rk 85 2 m1.vd (Z0Y (m1.h.asks.take m1.h.nx)), As.sep O])).append_right σ) h
 have h3 := Z29 (l := Z3A m1) hp h2
 exact St.perm ((List.perm_append_comm (l₁ := [As.sep (Z2m (GDDo Z i m1 s y1))]) (l₂ := [As.blk rb 80 (zC (GDDo Z i m1 s y1)), As.rk 82 5 Z.vh ((Z.hs.set i m1).map zrow)])).append_right σ) h3
theorem stepR (rb i : Nat) (Z : GDm) (hwf : Wf Z.abs) (hmay : mayG Z.abs i = true) (w : World) (hS : Sep w.heap.size (fps (zW rb Z)) w (zW rb Z)) :
  Z0f P 33 [ptr rb, .int .i64 (i : Int)] w fun r w' => ∃ Y : GDm, r = .tuple #[] ∧ Y.abs = Z1S Z.abs i ∧ LaOk Y ∧ Z1C w w' (zW rb Z) (zW rb Y) := by
 obtain ⟨h, h', y', hi, hih, _, e⟩ := Z3D hmay
 have hi2 : i < Z.hs.length := by rw [← Z2i]; exact hi
 obtain ⟨m, hm⟩ : ∃ m, Z.hs[i]? = some m := ⟨_, List.getElem?_eq_getElem hi2⟩
 have hn16 : Z.hs.length ≤ 16 := by simpa [GDm.abs] using hwf.n16
 obtain ⟨O, hp, hq⟩ := restZ_split hm
 have hs0 := St.startS hS
 have hz := Z4v (Z := Z) fun A hA => (hs0.ok (show As.sep (Z2m Z) ∈ zW rb Z from .tail _ (.tail _ (.head _)))).1 A hA
 have h0 := zw_open (σ := []) hm hp (by simpa using hs0)
 refine Calls.mono (stepR0 rb i Z hwf m hm hmay hz w (St.rows (τ := zD0 rb Z i m) h0)) fun e w' he => ?_
 obtain ⟨r, rfl, vd, rfl, hd1, hT⟩ := he
 refine ⟨_, rfl, GDDo Z i (mZ m (sgN Z.abs (Z0x m.h)) vd) (Z0x m.h) (Z0G (Z1d m.h) m.h (sgN Z.abs (Z0x m.h))).2, rfl, ?_, ⟨by show (-1 : Int) ≤ (i : Int); omega, by show (i : Int) ≤ 16; omega⟩, fun w0 B M σ h => ?_⟩
 ·unfold Z1S
  rw [Z2L hm]
  dsimp only
  show GW.mk ((Z.hs.set i _).map (·.h)) _ (((i : Int) + 1).toNat % (Z.hs.set i _).length) = _
  rw [List.map_set, List.length_set, Z2i, show ((i : Int) + 1).toNat = i + 1 by omega]
  rfl
 exact zw_close (m := m) (m1 := mZ m (sgN Z.abs (Z0x m.h)) vd) rfl (Z28 _ _ _) (hq _ _ rfl) (hT _ _ _ _ (zw_open hm hp h))
theorem Z4s (rb : Nat) (Z : GDm) (hwf : Wf Z.abs) (w : World) (hZF : GDF rb Z w) :
  Z0f P 26 [ptr rb] w fun r w' => r = .bool (overG Z.abs) ∧ Grow w w' [] := by
 refine Z0o func26 rfl ntmps26 rfl ?_
 have H0 := St.start w
 have hn16 : Z.hs.length ≤ 16 := by simpa [GDm.abs] using hwf.n16
 have hN41 := WfZ.n41 hwf
 refine Z03 (Z00 (Zg (Z01 (Z02 ?_))))
 refine Zk [0] ?_
 refine Z03 (Z03 (Z00 (Zg (Z01 (Z02 (Z0d ?_))))))
 refine Z0z (ι := Nat) (fun (i : Nat) => Z.hs.length - i) (fun (i : Nat) (w' : World) => St w w.heap.size Z0J ([]) w' ∧ i ≤ Z.hs.length ∧ ∀ (j : Nat) m, j < i → Z.hs[j]? = some m → m.h.line = 4) (fun (i : Nat) => [(3, .int .i64 (i : Int))]) [0] (0) ?_ (.cons rfl .nil) ?_ ?_
 ·exact ⟨H0, ZO, fun j m h => by omega⟩
 ·exact (.cons rfl ZN .nil)
 rintro i w1 ⟨H1, hi, hno⟩
 show RunC P _ _ _ (_ :: _) _
 refine Z03 (Z03 (Z00 (Zm (Zm (Z0b rfl rfl rfl (Z09 Z24 rfl rfl rfl ?_))))))
 refine Z05 (Z0r ((hZF.arg H1).hb)) mem0 rfl rfl underlying75 rfl rfl rfl ?_
 refine Z1B rfl rfl underlying75 rfl ((hZF.arg H1).hh) ?_
 refine Z0j (s := 9) (v' := .int .i64 (Z.hs.length : Int)) rfl (by rw [List.length_map]) ?_
 refine Zl ?_
 refine Z01 (Z02 ?_)
 refine Zk [0, 3, 10] ?_
 (first | refine Z0c rfl ?_ ?_ | refine Z08 rfl ?_ ?_) <;> intro hc0
 ·refine Z0a (Z02 ?_)
  refine Zk [0, 3] ?_
  refine Z03 (Z0d (Z03 (Z00 ?_)))
  obtain ⟨m, hm⟩ : ∃ m, Z.hs[i]? = some m := ⟨_, List.getElem?_eq_getElem ZO⟩
  obtain ⟨⟨Ah, ch, hvh⟩, hrow, hil⟩ := zsl hm (hZF.arg H1).hh
  have hzl : (Z.hs.map zrow).length = Z.hs.length := List.length_map _
  refine Zm (Z0b rfl rfl rfl (Z09 Z24 rfl rfl rfl ?_))
  refine Z05 (Z0r ((hZF.arg H1).hb)) mem0 rfl rfl underlying75 rfl rfl rfl ?_
  refine Zm ?_
  refine Z1s (j := i) rfl rfl underlying75 tz82 (by decide) rfl rfl ((hZF.arg H1).hh) hvh ZP (by rw [hzl]; omega) ?_
  refine Z0D Z2y rfl rfl rfl ?_
  refine Z0R (j := i) (o := 1) (r := zrow m) rfl rfl underlying3 rfl rfl hvh ((hZF.arg H1).hh) hrow rfl ?_
  refine Zo ?_
  refine Z01 (Z02 ?_)
  refine Zk [0, 3, 21] ?_
  (first | refine Z0c rfl ?_ ?_ | refine Z08 rfl ?_ ?_) <;> intro hc1
  ·refine Z03 (Z00 (Zg (Z01 (Z02 ?_))))
   refine Zk [2] ?_
   refine Z0i ?_
   refine Z0k ?_
   refine Z07 ?_
   refine Z07 ?_
   refine Z0k ?_
   refine Z07 ?_
   refine Z0e results26 rfl ?_
   refine ⟨_, rfl, ?_⟩
   refine ⟨congrArg Value.bool ?_, H1.grows⟩
   refine Eq.symm (List.all_eq_false.2 ⟨m.h, ?_, by simpa using hc1⟩)
   exact List.mem_of_getElem? (Z2L hm)
  refine Z0a ?_
  refine Z0F ?_
  refine Z02 ?_
  refine Zk [0, 3] ?_
  refine Z00 (Zm ?_)
  refine Z0y rfl rfl rfl rfl (Z0l ZO) ?_
  refine Zg (Z01 ?_)
  refine Z0p (i := (i)) (i + 1) ?_ ?_ (.cons rfl .nil) ?_
  ·first | omega | (simp; omega)
  ·exact ⟨H1, ZO, fun j m2 h hm2 => by
    by_cases e : j = i
    ·subst e
     rw [hm] at hm2
     cases hm2
     omega
    exact hno j m2 ZO hm2⟩
  exact (.cons rfl ZN .nil)
 refine Z0H ?_
 refine Z06 ?_
 refine Z06 ?_
 refine Z0h ?_
 refine Z02 ?_
 refine Zk [] ?_
 refine Z03 (Z00 (Zg (Z01 (Z02 ?_))))
 refine Z0i ?_
 refine Z0e results26 rfl ?_
 refine ⟨_, rfl, ?_⟩
 refine ⟨congrArg Value.bool ?_, H1.grows⟩
 refine Eq.symm (List.all_eq_true.2 fun h hh => ?_)
 obtain ⟨m2, hm2, rfl⟩ := List.mem_map.1 (show h ∈ Z.hs.map (·.h) from hh)
 obtain ⟨j, hj, rfl⟩ := List.mem_iff_getElem.1 hm2
 simpa using hno j _ ZO (List.getElem?_eq_getElem hj)
theorem SeeR (rb : Nat) (Z : GDm) (hwf : Wf Z.abs) (i : Int) (w : World) (hZF : GDF rb Z w) :
  Z0f P 18 [ptr rb, .int .i64 i] w fun r w' => r = handVal (Z3c Z.abs i) ∧ Grow w w' [] := by
 refine Z0o func18 rfl ntmps18 rfl ?_
 have H0 := St.start w
 have hn16 : Z.hs.length ≤ 16 := by simpa [GDm.abs] using hwf.n16
 have hN41 := WfZ.n41 hwf
 refine Z03 (Z00 ?_)
 refine Z0X H0 ta44 rfl rfl (fun b0_0 w1 H1 => ?_)
 refine Z01 (Z02 (Z03 (Z03 (Z00 (Zm ?_)))))
 refine Zl ?_
 refine Zm ?_
 apply l_or 7 [0, 1, 4] rfl rfl (.cons rfl (.cons rfl (.cons rfl (.cons rfl .nil)))) rfl rfl (fun _ => rfl) rfl rfl rfl
 ·intro hg1_3
  refine Zm (Zm (Z0b rfl rfl rfl (Z09 Z24 rfl rfl rfl ?_)))
  refine Z05 (Z0r ((hZF.arg H1).hb)) mem0 rfl rfl underlying75 rfl rfl rfl ?_
  refine Z1B rfl rfl underlying75 rfl ((hZF.arg H1).hh) ?_
  refine Z0j (s := 13) (v' := .int .i64 (Z.hs.length : Int)) rfl (by rw [List.length_map]) ?_
  refine Zh ?_
  refine Z01 ?_
  exact Z0O rfl (.cons rfl (ZF hg1_3) (.cons rfl rfl (.cons rfl rfl (.cons rfl rfl .nil))))
  all_goals infer_instance
 refine Z01 (Z02 ?_)
 refine Zk [0, 1, 4, 15] ?_
 (first | refine Z0c rfl ?_ ?_ | refine Z08 rfl ?_ ?_) <;> intro hc0
 ·refine Z03 (Z00 ?_)
  refine Z16 rfl rfl pl44 ta44 .nil ?_
  refine Z0m H1 .head (.zero (.zero (.zero .nil))) rfl tz44 rfl rfl ZC (fun w2 H2 => ?_)
  refine Z01 (Z02 ?_)
  refine Zk [4] ?_
  refine Z0i ?_
  refine Z07 ?_
  refine Z2n results18 (.cell rfl (Z0E H2 mem0 underlying44 rfl tz44 (.take (.take (.take .nil)))) .nil) ?_
  refine ⟨_, rfl, ?_⟩
  have H3 := St.del .head H2
  refine ⟨?_, H3.grows⟩
  have e : Z3c Z.abs i = (0, 0, 0) := by
   unfold Z3c
   split
   ·rename_i h
    rw [List.getElem?_eq_none (by simp only [GDm.abs, List.length_map]; omega)]
   rfl
  rw [e]
  all_goals rfl
 refine Z0a (Z02 ?_)
 refine Zk [0, 1, 4] ?_
 refine Z03 ?_
 have H4 := H1.drewn
 have hin : 0 ≤ i ∧ i < Z.hs.length := by simp at hc0; omega
 obtain ⟨m, hm⟩ : ∃ m, Z.hs[i.toNat]? = some m := ⟨_, List.getElem?_eq_getElem ZO⟩
 obtain ⟨⟨Ah, ch, hvh⟩, hrow, hil⟩ := zsl hm (hZF.arg H4).hh
 have hzl : (Z.hs.map zrow).length = Z.hs.length := List.length_map _
 refine Z1a (n := 26) [Zz,Zz,Zz,Zz,Zz,Zz,Zz,Zz,Zz,Zz,Zz,Zz,Zz,Zz,Zz,Zz,Zz,Zz,Zz,Zz,Zz,Zz,Zz,Zz,Zz,Zz] (fun wS => (As.blk rb 80 (zC Z)).ok wS ∧ IK wS 5 Z.vh (Z.hs.map zrow)) ZK rfl rfl ?_
 apply Zu (L' := [Zy,Zz,Zz,Zz,Zz,Zz,Zz,Zz,Zz,Zz,Zz,Zz,Zz,Zz,Zz,Zz,Zz,Zz,Zz,Zz,Zz,Zz,Zz,Zz,Zz,Zz]) 0 (⟨(hZF.arg H4).hb, (hZF.arg H4).hh⟩)
 ·intro wS sS
  refine Zm (Z01 ?_)
  exact Z04 rfl
 refine Z0N (L' := [Zy,Zy,Zz,Zz,Zz,Zz,Zz,Zz,Zz,Zz,Zz,Zz,Zz,Zz,Zz,Zz,Zz,Zz,Zz,Zz,Zz,Zz,Zz,Zz,Zz,Zz]) 1 rfl ZK ZK ZK rfl rfl rfl (⟨(hZF.arg H4).hb, (hZF.arg H4).hh⟩) rfl ?_
 apply Zu (L' := [Zy,Zy,Zy,Zz,Zz,Zz,Zz,Zz,Zz,Zz,Zz,Zz,Zz,Zz,Zz,Zz,Zz,Zz,Zz,Zz,Zz,Zz,Zz,Zz,Zz,Zz]) 2 (⟨(hZF.arg H4).hb, (hZF.arg H4).hh⟩)
 ·intro wS sS
  refine Z09 Z24 rfl rfl rfl (Z01 ?_)
  exact Z04 rfl
 apply Zu (L' := [Zy,Zy,Zy,Zy,Zz,Zz,Zz,Zz,Zz,Zz,Zz,Zz,Zz,Zz,Zz,Zz,Zz,Zz,Zz,Zz,Zz,Zz,Zz,Zz,Zz,Zz]) 3 (⟨(hZF.arg H4).hb, (hZF.arg H4).hh⟩)
 ·intro wS sS
  refine Z05 (Z0r (sS.1)) mem0 rfl rfl underlying75 rfl rfl rfl ?_
  refine Z01 ?_
  exact Z04 rfl
 apply Zu (L' := [Zy,Zy,Zy,Zy,Zy,Zz,Zz,Zz,Zz,Zz,Zz,Zz,Zz,Zz,Zz,Zz,Zz,Zz,Zz,Zz,Zz,Zz,Zz,Zz,Zz,Zz]) 4 (⟨(hZF.arg H4).hb, (hZF.arg H4).hh⟩)
 ·intro wS sS
  refine Zm (Z01 ?_)
  exact Z04 rfl
 apply Zu (L' := [Zy,Zy,Zy,Zy,Zy,Zy,Zz,Zz,Zz,Zz,Zz,Zz,Zz,Zz,Zz,Zz,Zz,Zz,Zz,Zz,Zz,Zz,Zz,Zz,Zz,Zz]) 5 (⟨(hZF.arg H4).hb, (hZF.arg H4).hh⟩)
 ·intro wS sS
  refine Z0j (s := 21) (v' := .int .i64 ((i.toNat : Nat) : Int)) rfl (congrArg (Value.int .i64) ZO) ?_
  refine Z1s (j := i.toNat) rfl rfl underlying75 tz82 (by decide) rfl rfl (sS.2) hvh ZP (by rw [hzl]; omega) ?_
  refine Z01 ?_
  exact Z04 rfl
 apply Zu (L' := [Zy,Zy,Zy,Zy,Zy,Zy,Zy,Zz,Zz,Zz,Zz,Zz,Zz,Zz,Zz,Zz,Zz,Zz,Zz,Zz,Zz,Zz,Zz,Zz,Zz,Zz]) 6 (⟨(hZF.arg H4).hb, (hZF.arg H4).hh⟩)
 ·intro wS sS
  refine Z0D Z2y rfl rfl rfl ?_
  refine Z01 ?_
  exact Z04 rfl
 apply Zu (L' := [Zy,Zy,Zy,Zy,Zy,Zy,Zy,Zy,Zz,Zz,Zz,Zz,Zz,Zz,Zz,Zz,Zz,Zz,Zz,Zz,Zz,Zz,Zz,Zz,Zz,Zz]) 7 (⟨(hZF.arg H4).hb, (hZF.arg H4).hh⟩)
 ·intro wS sS
  refine Z0R (j := i.toNat) (o := 1) (r := zrow m) rfl rfl underlying3 rfl rfl hvh (sS.2) hrow rfl ?_
  refine Z01 ?_
  exact Z04 rfl
 apply Zu (L' := [Zy,Zy,Zy,Zy,Zy,Zy,Zy,Zy,Zy,Zz,Zz,Zz,Zz,Zz,Zz,Zz,Zz,Zz,Zz,Zz,Zz,Zz,Zz,Zz,Zz,Zz]) 8 (⟨(hZF.arg H4).hb, (hZF.arg H4).hh⟩)
 ·intro wS sS
  refine Zm (Z01 ?_)
  exact Z04 rfl
 refine Z0N (L' := [Zy,Zy,Zy,Zy,Zy,Zy,Zy,Zy,Zy,Zy,Zz,Zz,Zz,Zz,Zz,Zz,Zz,Zz,Zz,Zz,Zz,Zz,Zz,Zz,Zz,Zz]) 9 rfl ZK ZK ZK rfl rfl rfl (⟨(hZF.arg H4).hb, (hZF.arg H4).hh⟩) rfl ?_
 apply Zu (L' := [Zy,Zy,Zy,Zy,Zy,Zy,Zy,Zy,Zy,Zy,Zy,Zz,Zz,Zz,Zz,Zz,Zz,Zz,Zz,Zz,Zz,Zz,Zz,Zz,Zz,Zz]) 10 (⟨(hZF.arg H4).hb, (hZF.arg H4).hh⟩)
 ·intro wS sS
  refine Z09 Z24 rfl rfl rfl (Z01 ?_)
  exact Z04 rfl
 apply Zu (L' := [Zy,Zy,Zy,Zy,Zy,Zy,Zy,Zy,Zy,Zy,Zy,Zy,Zz,Zz,Zz,Zz,Zz,Zz,Zz,Zz,Zz,Zz,Zz,Zz,Zz,Zz]) 11 (⟨(hZF.arg H4).hb, (hZF.arg H4).hh⟩)
 ·intro wS sS
  refine Z05 (Z0r (sS.1)) mem0 rfl rfl underlying75 rfl rfl rfl ?_
  refine Z01 ?_
  exact Z04 rfl
 apply Zu (L' := [Zy,Zy,Zy,Zy,Zy,Zy,Zy,Zy,Zy,Zy,Zy,Zy,Zy,Zz,Zz,Zz,Zz,Zz,Zz,Zz,Zz,Zz,Zz,Zz,Zz,Zz]) 12 (⟨(hZF.arg H4).hb, (hZF.arg H4).hh⟩)
 ·intro wS sS
  refine Zm (Z01 ?_)
  exact Z04 rfl
 apply Zu (L' := [Zy,Zy,Zy,Zy,Zy,Zy,Zy,Zy,Zy,Zy,Zy,Zy,Zy,Zy,Zz,Zz,Zz,Zz,Zz,Zz,Zz,Zz,Zz,Zz,Zz,Zz]) 13 (⟨(hZF.arg H4).hb, (hZF.arg H4).hh⟩)
 ·intro wS sS
  refine Z0j (s := 29) (v' := .int .i64 ((i.toNat : Nat) : Int)) rfl (congrArg (Value.int .i64) ZO) ?_
  refine Z1s (j := i.toNat) rfl rfl underlying75 tz82 (by decide) rfl rfl (sS.2) hvh ZP (by rw [hzl]; omega) ?_
  refine Z01 ?_
  exact Z04 rfl
 apply Zu (L' := [Zy,Zy,Zy,Zy,Zy,Zy,Zy,Zy,Zy,Zy,Zy,Zy,Zy,Zy,Zy,Zz,Zz,Zz,Zz,Zz,Zz,Zz,Zz,Zz,Zz,Zz]) 14 (⟨(hZF.arg H4).hb, (hZF.arg H4).hh⟩)
 ·intro wS sS
  refine Z0D Z2f rfl rfl rfl ?_
  refine Z01 ?_
  exact Z04 rfl
 apply Zu (L' := [Zy,Zy,Zy,Zy,Zy,Zy,Zy,Zy,Zy,Zy,Zy,Zy,Zy,Zy,Zy,Zy,Zz,Zz,Zz,Zz,Zz,Zz,Zz,Zz,Zz,Zz]) 15 (⟨(hZF.arg H4).hb, (hZF.arg H4).hh⟩)
 ·intro wS sS
  refine Z0R (j := i.toNat) (o := 2) (r := zrow m) rfl rfl underlying3 rfl rfl hvh (sS.2) hrow rfl ?_
  refine Z01 ?_
  exact Z04 rfl
 apply Zu (L' := [Zy,Zy,Zy,Zy,Zy,Zy,Zy,Zy,Zy,Zy,Zy,Zy,Zy,Zy,Zy,Zy,Zy,Zz,Zz,Zz,Zz,Zz,Zz,Zz,Zz,Zz]) 16 (⟨(hZF.arg H4).hb, (hZF.arg H4).hh⟩)
 ·intro wS sS
  refine Zm (Z01 ?_)
  exact Z04 rfl
 refine Z0N (L' := [Zy,Zy,Zy,Zy,Zy,Zy,Zy,Zy,Zy,Zy,Zy,Zy,Zy,Zy,Zy,Zy,Zy,Zy,Zz,Zz,Zz,Zz,Zz,Zz,Zz,Zz]) 17 rfl ZK ZK ZK rfl rfl rfl (⟨(hZF.arg H4).hb, (hZF.arg H4).hh⟩) rfl ?_
 apply Zu (L' := [Zy,Zy,Zy,Zy,Zy,Zy,Zy,Zy,Zy,Zy,Zy,Zy,Zy,Zy,Zy,Zy,Zy,Zy,Zy,Zz,Zz,Zz,Zz,Zz,Zz,Zz]) 18 (⟨(hZF.arg H4).hb, (hZF.arg H4).hh⟩)
 ·intro wS sS
  refine Z09 Z24 rfl rfl rfl (Z01 ?_)
  exact Z04 rfl
 apply Zu (L' := [Zy,Zy,Zy,Zy,Zy,Zy,Zy,Zy,Zy,Zy,Zy,Zy,Zy,Zy,Zy,Zy,Zy,Zy,Zy,Zy,Zz,Zz,Zz,Zz,Zz,Zz]) 19 (⟨(hZF.arg H4).hb, (hZF.arg H4).hh⟩)
 ·intro wS sS
  refine Z05 (Z0r (sS.1)) mem0 rfl rfl underlying75 rfl rfl rfl ?_
  refine Z01 ?_
  exact Z04 rfl
 apply Zu (L' := [Zy,Zy,Zy,Zy,Zy,Zy,Zy,Zy,Zy,Zy,Zy,Zy,Zy,Zy,Zy,Zy,Zy,Zy,Zy,Zy,Zy,Zz,Zz,Zz,Zz,Zz]) 20 (⟨(hZF.arg H4).hb, (hZF.arg H4).hh⟩)
 ·intro wS sS
  refine Zm (Z01 ?_)
  exact Z04 rfl
 apply Zu (L' := [Zy,Zy,Zy,Zy,Zy,Zy,Zy,Zy,Zy,Zy,Zy,Zy,Zy,Zy,Zy,Zy,Zy,Zy,Zy,Zy,Zy,Zy,Zz,Zz,Zz,Zz]) 21 (⟨(hZF.arg H4).hb, (hZF.arg H4).hh⟩)
 ·intro wS sS
  refine Z0j (s := 37) (v' := .int .i64 ((i.toNat : Nat) : Int)) rfl (congrArg (Value.int .i64) ZO) ?_
  refine Z1s (j := i.toNat) rfl rfl underlying75 tz82 (by decide) rfl rfl (sS.2) hvh ZP (by rw [hzl]; omega) ?_
  refine Z01 ?_
  exact Z04 rfl
 apply Zu (L' := [Zy,Zy,Zy,Zy,Zy,Zy,Zy,Zy,Zy,Zy,Zy,Zy,Zy,Zy,Zy,Zy,Zy,Zy,Zy,Zy,Zy,Zy,Zy,Zz,Zz,Zz]) 22 (⟨(hZF.arg H4).hb, (hZF.arg H4).hh⟩)
 ·intro wS sS
  refine Z0D fo82_3 rfl rfl rfl ?_
  refine Z01 ?_
  exact Z04 rfl
 apply Zu (L' := [Zy,Zy,Zy,Zy,Zy,Zy,Zy,Zy,Zy,Zy,Zy,Zy,Zy,Zy,Zy,Zy,Zy,Zy,Zy,Zy,Zy,Zy,Zy,Zy,Zz,Zz]) 23 (⟨(hZF.arg H4).hb, (hZF.arg H4).hh⟩)
 ·intro wS sS
  refine Z0R (j := i.toNat) (o := 3) (r := zrow m) rfl rfl underlying3 rfl rfl hvh (sS.2) hrow rfl ?_
  refine Z01 ?_
  exact Z04 rfl
 refine Z0v (L' := [Zy,Zy,Zy,Zy,Zy,Zy,Zy,Zy,Zy,Zy,Zy,Zy,Zy,Zy,Zy,Zy,Zy,Zy,Zy,Zy,Zy,Zy,Zy,Zy,Zy,Zz]) 24 ZK rfl rfl ?_
 refine Z16 rfl rfl pl44 ta44 (.one rfl rfl ZR .zero (.one rfl rfl ZR (.succ .zero) (.one rfl rfl ZR (.succ (.succ .zero)) .nil))) ?_
 refine Z01 ?_
 refine Z0n (⟨(hZF.arg H4).hb, (hZF.arg H4).hh⟩) ?_
 refine Z0v (L' := [Zy,Zy,Zy,Zy,Zy,Zy,Zy,Zy,Zy,Zy,Zy,Zy,Zy,Zy,Zy,Zy,Zy,Zy,Zy,Zy,Zy,Zy,Zy,Zy,Zy,Zy]) 25 ZK rfl rfl ?_
 refine Z0m H4 .head (.zero (.zero (.zero .nil))) rfl tz44 rfl rfl ZC (fun w5 H5 => ?_)
 refine Z01 ?_
 refine Z0n (⟨(hZF.arg H5).hb, (hZF.arg H5).hh⟩) ?_
 refine Z0B ZK ?_
 refine Z02 ?_
 refine Zk [4] ?_
 refine Z0i ?_
 refine Z2n results18 (.cell rfl (Z0E H5 mem0 underlying44 rfl tz44 (.take (.take (.take .nil)))) .nil) ?_
 refine ⟨_, rfl, ?_⟩
 have H6 := St.del .head H5
 refine ⟨?_, H6.grows⟩
 have e : Z3c Z.abs i = (m.h.line, (m.h.nx : Int), segV m.h) := by
  unfold Z3c segV
  rw [if_pos hin.1, Z2L hm]
 rw [e]
 all_goals rfl
def readV (Z : GDm) (i : Int) : Value := if 0 ≤ i then (match Z.hs[i.toNat]? with
 | some m => m.vd
 | none => .slice none 0 0) else .slice none 0 0
theorem Z4t {rb : Nat} {Z : GDm} {w : World} (h : GDF rb Z w) (i : Int) : IK w 2 (readV Z i) (Z2J Z.abs i) := by
 have hn : IK w 2 (.slice none 0 0) [] := ⟨fun _ h => (nomatch h), none, 0, rfl, Nat.le_refl _, Sl.nil _ _⟩
 unfold readV Z2J
 by_cases h0 : 0 ≤ i
 ·rw [if_pos h0, if_pos h0]
  cases hm : Z.hs[i.toNat]? with
  | none =>
   rw [show Z.abs.hs[i.toNat]? = none from by show (Z.hs.map (·.h))[i.toNat]? = none; rw [List.getElem?_map, hm]; rfl]
   exact hn
  | some m =>
   rw [Z2L hm]
   exact h.vd hm
 rw [if_neg h0, if_neg h0]
 exact hn
theorem ReadR (rb : Nat) (Z : GDm) (hwf : Wf Z.abs) (i : Int) (w : World) (hZF : GDF rb Z w) :
  Z0f P 21 [ptr rb, .int .i64 i] w fun r w' => r = readV Z i ∧ w = w' := by
 refine Z0o func21 rfl ntmps21 rfl ?_
 have hn16 : Z.hs.length ≤ 16 := by simpa [GDm.abs] using hwf.n16
 have hN41 := WfZ.n41 hwf
 refine Z03 (Z00 (Zg (Z01 (Z02 ?_))))
 refine Zk [0, 1] ?_
 refine Z03 (Z03 (Z00 (Zm ?_)))
 refine Zl ?_
 refine Zm ?_
 apply l_or 7 [0, 1] rfl rfl (.cons rfl (.cons rfl (.cons rfl .nil))) rfl rfl (fun _ => rfl) rfl rfl rfl
 ·intro hg1_3
  refine Zm (Zm (Z0b rfl rfl rfl (Z09 Z24 rfl rfl rfl ?_)))
  refine Z05 (Z0r (hZF.hb)) mem0 rfl rfl underlying75 rfl rfl rfl ?_
  refine Z1B rfl rfl underlying75 rfl (hZF.hh) ?_
  refine Z0j (s := 13) (v' := .int .i64 (Z.hs.length : Int)) rfl (by rw [List.length_map]) ?_
  refine Zh ?_
  refine Z01 ?_
  exact Z0O rfl (.cons rfl (ZF hg1_3) (.cons rfl rfl (.cons rfl rfl .nil)))
  all_goals infer_instance
 refine Z01 (Z02 ?_)
 refine Zk [0, 1, 15] ?_
 (first | refine Z0c rfl ?_ ?_ | refine Z08 rfl ?_ ?_) <;> intro hc0
 ·refine Z03 (Z00 (Zg (Z01 (Z02 ?_))))
  refine Zk [4] ?_
  refine Z0i ?_
  refine Z07 ?_
  refine Z0e results21 rfl ?_
  refine ⟨_, rfl, ?_⟩
  refine ⟨?_, rfl⟩
  unfold readV
  split
  ·rename_i h
   rw [List.getElem?_eq_none ZO]
  rfl
 refine Z0a (Z02 ?_)
 refine Zk [0, 1] ?_
 refine Z03 (Z00 ?_)
 have hin : 0 ≤ i ∧ i < Z.hs.length := by simp at hc0; omega
 obtain ⟨m, hm⟩ : ∃ m, Z.hs[i.toNat]? = some m := ⟨_, List.getElem?_eq_getElem ZO⟩
 obtain ⟨⟨Ah, ch, hvh⟩, hrow, hil⟩ := zsl hm hZF.hh
 have hzl : (Z.hs.map zrow).length = Z.hs.length := List.length_map _
 refine Zm (Z0b rfl rfl rfl (Z09 Z24 rfl rfl rfl ?_))
 refine Z05 (Z0r (hZF.hb)) mem0 rfl rfl underlying75 rfl rfl rfl ?_
 refine Zm ?_
 refine Z0j (s := 20) (v' := .int .i64 ((i.toNat : Nat) : Int)) rfl (congrArg (Value.int .i64) ZO) ?_
 refine Z1s (j := i.toNat) rfl rfl underlying75 tz82 (by decide) rfl rfl (hZF.hh) hvh ZP (by rw [hzl]; omega) ?_
 refine Z0D Z4g rfl rfl rfl ?_
 refine Z0R (j := i.toNat) (o := 4) (r := zrow m) rfl rfl underlying47 rfl rfl hvh (hZF.hh) hrow rfl ?_
 refine Zg (Z01 (Z02 ?_))
 refine Zk [4] ?_
 refine Z0i ?_
 refine Z0e results21 rfl ?_
 refine ⟨_, rfl, ?_⟩
 refine ⟨?_, rfl⟩
 unfold readV
 rw [if_pos hin.1, hm]
theorem TellsR (rb : Nat) (Z : GDm) (hwf : Wf Z.abs) (s : Int) (w : World) (hZF : GDF rb Z w) :
  Z0f P 38 [.pointer (some ⟨rb, 1, none⟩), .int .i64 s] w fun r w' => r = .tuple #[.int .i64 (sgF Z.abs s).built, .int .i64 ((sgF Z.abs s).laid : Int), .bool (sgF Z.abs s).done] ∧ Grow w w' [] := by
 refine Z0o func38 rfl ntmps38 rfl ?_
 have H0 := St.start w
 have hn16 : Z.hs.length ≤ 16 := by simpa [GDm.abs] using hwf.n16
 have hN41 := WfZ.n41 hwf
 refine Z03 (Z00 (Zg (Zg (Zg (Z01 (Z02 ?_))))))
 refine Zk [0, 1] ?_
 refine Z03 (Z03 (Z00 (Zm ?_)))
 refine Zl ?_
 refine Zm ?_
 apply l_or 2 [0, 1] rfl rfl (.cons rfl (.cons rfl (.cons rfl .nil))) rfl rfl (fun _ => rfl) rfl rfl rfl
 ·intro hg1_3
  refine Zm ?_
  refine Zh ?_
  refine Z01 ?_
  exact Z0O rfl (.cons rfl (ZF hg1_3) (.cons rfl rfl (.cons rfl rfl .nil)))
  all_goals infer_instance
 refine Z01 (Z02 ?_)
 refine Zk [0, 1, 12] ?_
 (first | refine Z0c rfl ?_ ?_ | refine Z08 rfl ?_ ?_) <;> intro hc0
 ·refine Z03 (Z00 (Zg (Zg (Zg (Z01 (Z02 ?_))))))
  refine Zk [4, 5, 6] ?_
  refine Z0i ?_
  refine Z07 ?_
  refine Z12 results38 (.tmp rfl (.tmp rfl (.tmp rfl .nil))) rfl ?_
  refine ⟨_, rfl, ?_⟩
  refine ⟨?_, H0.grows⟩
  rw [show sgF Z.abs s = ⟨0, 0, false⟩ from if_neg ZO]
  all_goals rfl
 refine Z0a (Z02 ?_)
 refine Zk [0, 1] ?_
 refine Z03 ?_
 have H1 := H0.drewn
 have hin : 0 ≤ s ∧ s < 41 := by simp at hc0; omega
 have hs41 : s.toNat < 41 := by omega
 refine Z1a (n := 22) [Zz,Zz,Zz,Zz,Zz,Zz,Zz,Zz,Zz,Zz,Zz,Zz,Zz,Zz,Zz,Zz,Zz,Zz,Zz,Zz,Zz,Zz] (fun wS => (As.blk rb 80 (zC Z)).ok wS) ZK rfl rfl ?_
 apply Zu (L' := [Zy,Zz,Zz,Zz,Zz,Zz,Zz,Zz,Zz,Zz,Zz,Zz,Zz,Zz,Zz,Zz,Zz,Zz,Zz,Zz,Zz,Zz]) 0 ((hZF.arg H1).hb)
 ·intro wS sS
  refine Zm (Z01 ?_)
  exact Z04 rfl
 refine Z0N (L' := [Zy,Zz,Zy,Zz,Zz,Zz,Zz,Zz,Zz,Zz,Zz,Zz,Zz,Zz,Zz,Zz,Zz,Zz,Zz,Zz,Zz,Zz]) 2 rfl ZK ZK ZK rfl rfl rfl ((hZF.arg H1).hb) rfl ?_
 apply Zu (L' := [Zy,Zy,Zy,Zz,Zz,Zz,Zz,Zz,Zz,Zz,Zz,Zz,Zz,Zz,Zz,Zz,Zz,Zz,Zz,Zz,Zz,Zz]) 1 ((hZF.arg H1).hb)
 ·intro wS sS
  refine Zm (Z01 ?_)
  exact Z04 rfl
 apply Zu (L' := [Zy,Zy,Zy,Zy,Zz,Zz,Zz,Zz,Zz,Zz,Zz,Zz,Zz,Zz,Zz,Zz,Zz,Zz,Zz,Zz,Zz,Zz]) 3 ((hZF.arg H1).hb)
 ·intro wS sS
  refine Z09 fo78_2 rfl rfl rfl (Z01 ?_)
  exact Z04 rfl
 apply Zu (L' := [Zy,Zy,Zy,Zy,Zy,Zz,Zz,Zz,Zz,Zz,Zz,Zz,Zz,Zz,Zz,Zz,Zz,Zz,Zz,Zz,Zz,Zz]) 4 ((hZF.arg H1).hb)
 ·intro wS sS
  refine Z0j (s := 14) (v' := .int .i64 ((s.toNat : Nat) : Int)) rfl (congrArg (Value.int .i64) ZO) ?_
  refine Z11 (j := s.toNat) (o := 83) (n := 1) rfl rfl underlying76 tz3 rfl rfl ZP hs41 ?_
  rw [Nat.mul_one]
  refine Z01 ?_
  exact Z04 rfl
 apply Zu (L' := [Zy,Zy,Zy,Zy,Zy,Zy,Zz,Zz,Zz,Zz,Zz,Zz,Zz,Zz,Zz,Zz,Zz,Zz,Zz,Zz,Zz,Zz]) 5 ((hZF.arg H1).hb)
 ·intro wS sS
  refine Z05 (Z0r (sS)) mem0 rfl rfl underlying3 rfl rfl (zc_b hN41 hs41) ?_
  refine Z01 ?_
  exact Z04 rfl
 apply Zu (L' := [Zy,Zy,Zy,Zy,Zy,Zy,Zy,Zz,Zz,Zz,Zz,Zz,Zz,Zz,Zz,Zz,Zz,Zz,Zz,Zz,Zz,Zz]) 6 ((hZF.arg H1).hb)
 ·intro wS sS
  refine Zm (Z01 ?_)
  exact Z04 rfl
 refine Z0N (L' := [Zy,Zy,Zy,Zy,Zy,Zy,Zy,Zz,Zy,Zz,Zz,Zz,Zz,Zz,Zz,Zz,Zz,Zz,Zz,Zz,Zz,Zz]) 8 rfl ZK ZK ZK rfl rfl rfl ((hZF.arg H1).hb) rfl ?_
 apply Zu (L' := [Zy,Zy,Zy,Zy,Zy,Zy,Zy,Zy,Zy,Zz,Zz,Zz,Zz,Zz,Zz,Zz,Zz,Zz,Zz,Zz,Zz,Zz]) 7 ((hZF.arg H1).hb)
 ·intro wS sS
  refine Zm (Z01 ?_)
  exact Z04 rfl
 apply Zu (L' := [Zy,Zy,Zy,Zy,Zy,Zy,Zy,Zy,Zy,Zy,Zz,Zz,Zz,Zz,Zz,Zz,Zz,Zz,Zz,Zz,Zz,Zz]) 9 ((hZF.arg H1).hb)
 ·intro wS sS
  refine Z09 fo78_1 rfl rfl rfl (Z01 ?_)
  exact Z04 rfl
 apply Zu (L' := [Zy,Zy,Zy,Zy,Zy,Zy,Zy,Zy,Zy,Zy,Zy,Zz,Zz,Zz,Zz,Zz,Zz,Zz,Zz,Zz,Zz,Zz]) 10 ((hZF.arg H1).hb)
 ·intro wS sS
  refine Z0j (s := 20) (v' := .int .i64 ((s.toNat : Nat) : Int)) rfl (congrArg (Value.int .i64) ZO) ?_
  refine Z11 (j := s.toNat) (o := 42) (n := 1) rfl rfl underlying76 tz3 rfl rfl ZP hs41 ?_
  rw [Nat.mul_one]
  refine Z01 ?_
  exact Z04 rfl
 apply Zu (L' := [Zy,Zy,Zy,Zy,Zy,Zy,Zy,Zy,Zy,Zy,Zy,Zy,Zz,Zz,Zz,Zz,Zz,Zz,Zz,Zz,Zz,Zz]) 11 ((hZF.arg H1).hb)
 ·intro wS sS
  refine Z05 (Z0r (sS)) mem0 rfl rfl underlying3 rfl rfl (zc_l hN41 hs41) ?_
  refine Z01 ?_
  exact Z04 rfl
 apply Zu (L' := [Zy,Zy,Zy,Zy,Zy,Zy,Zy,Zy,Zy,Zy,Zy,Zy,Zy,Zz,Zz,Zz,Zz,Zz,Zz,Zz,Zz,Zz]) 12 ((hZF.arg H1).hb)
 ·intro wS sS
  refine Zm (Z01 ?_)
  exact Z04 rfl
 refine Z0N (L' := [Zy,Zy,Zy,Zy,Zy,Zy,Zy,Zy,Zy,Zy,Zy,Zy,Zy,Zz,Zy,Zz,Zz,Zz,Zz,Zz,Zz,Zz]) 14 rfl ZK ZK ZK rfl rfl rfl ((hZF.arg H1).hb) rfl ?_
 apply Zu (L' := [Zy,Zy,Zy,Zy,Zy,Zy,Zy,Zy,Zy,Zy,Zy,Zy,Zy,Zy,Zy,Zz,Zz,Zz,Zz,Zz,Zz,Zz]) 13 ((hZF.arg H1).hb)
 ·intro wS sS
  refine Zm (Z01 ?_)
  exact Z04 rfl
 apply Zu (L' := [Zy,Zy,Zy,Zy,Zy,Zy,Zy,Zy,Zy,Zy,Zy,Zy,Zy,Zy,Zy,Zy,Zz,Zz,Zz,Zz,Zz,Zz]) 15 ((hZF.arg H1).hb)
 ·intro wS sS
  refine Z09 fo78_0 rfl rfl rfl (Z01 ?_)
  exact Z04 rfl
 apply Zu (L' := [Zy,Zy,Zy,Zy,Zy,Zy,Zy,Zy,Zy,Zy,Zy,Zy,Zy,Zy,Zy,Zy,Zy,Zz,Zz,Zz,Zz,Zz]) 16 ((hZF.arg H1).hb)
 ·intro wS sS
  refine Z0j (s := 26) (v' := .int .i64 ((s.toNat : Nat) : Int)) rfl (congrArg (Value.int .i64) ZO) ?_
  refine Z11 (j := s.toNat) (o := 1) (n := 1) rfl rfl underlying76 tz3 rfl rfl ZP hs41 ?_
  rw [Nat.mul_one]
  refine Z01 ?_
  exact Z04 rfl
 apply Zu (L' := [Zy,Zy,Zy,Zy,Zy,Zy,Zy,Zy,Zy,Zy,Zy,Zy,Zy,Zy,Zy,Zy,Zy,Zy,Zz,Zz,Zz,Zz]) 17 ((hZF.arg H1).hb)
 ·intro wS sS
  refine Z05 (Z0r (sS)) mem0 rfl rfl underlying3 rfl rfl (zc_s hN41 hs41) ?_
  refine Z01 ?_
  exact Z04 rfl
 apply Zu (L' := [Zy,Zy,Zy,Zy,Zy,Zy,Zy,Zy,Zy,Zy,Zy,Zy,Zy,Zy,Zy,Zy,Zy,Zy,Zy,Zz,Zz,Zz]) 18 ((hZF.arg H1).hb)
 ·intro wS sS
  refine Ze ?_
  refine Z01 ?_
  exact Z04 rfl
 apply Zu (L' := [Zy,Zy,Zy,Zy,Zy,Zy,Zy,Zy,Zy,Zy,Zy,Zy,Zy,Zy,Zy,Zy,Zy,Zy,Zy,Zy,Zz,Zz]) 19 ((hZF.arg H1).hb)
 ·intro wS sS
  refine Zg (Z01 ?_)
  exact Z04 rfl
 apply Zu (L' := [Zy,Zy,Zy,Zy,Zy,Zy,Zy,Zy,Zy,Zy,Zy,Zy,Zy,Zy,Zy,Zy,Zy,Zy,Zy,Zy,Zy,Zz]) 20 ((hZF.arg H1).hb)
 ·intro wS sS
  refine Zg (Z01 ?_)
  exact Z04 rfl
 apply Zu (L' := [Zy,Zy,Zy,Zy,Zy,Zy,Zy,Zy,Zy,Zy,Zy,Zy,Zy,Zy,Zy,Zy,Zy,Zy,Zy,Zy,Zy,Zy]) 21 ((hZF.arg H1).hb)
 ·intro wS sS
  refine Zg (Z01 ?_)
  exact Z04 rfl
 refine Z0B ZK ?_
 refine Z02 ?_
 refine Zk [4, 5, 6] ?_
 refine Z0i ?_
 refine Z12 results38 (.tmp rfl (.tmp rfl (.tmp rfl .nil))) rfl ?_
 refine ⟨_, rfl, ?_⟩
 refine ⟨?_, H1.grows⟩
 have e : sgF Z.abs s = sgN Z.abs s.toNat := if_pos hin
 rw [e, st_at hwf hs41, la_at hwf hs41, bu_at hwf hs41]
 have hd : decide (stV (sgN Z.abs s.toNat) = 2) = (sgN Z.abs s.toNat).done := by
  cases hq : (sgN Z.abs s.toNat).done with
  | true => exact decide_eq_true (stV_2.2 hq)
  | false => exact decide_eq_false fun h => by rw [stV_2.1 h] at hq; cases hq
 rw [hd]
 all_goals rfl
theorem MovesR (rb : Nat) (Z : GDm) (hwf : Wf Z.abs) (w : World) (hZF : GDF rb Z w) :
  Z0f P 24 [ptr rb] w fun r w' => ∃ v, r = v ∧ Grow w w' [As.rk 87 2 v (Z18 (Z0A Z.abs))] := by
 refine Z0o func24 rfl ntmps24 rfl ?_
 have H0 := St.start w
 have hn16 : Z.hs.length ≤ 16 := by simpa [GDm.abs] using hwf.n16
 have hN41 := WfZ.n41 hwf
 refine Z03 (Z00 (Zg (Z01 (Z02 ?_))))
 refine Zk [0] ?_
 refine Z03 (Z00 (Zg (Z01 (Z02 (Z03 (Z03 (Z00 (Zg (Z01 (Z02 (Z0d ?_)))))))))))
 refine Z0z (ι := Nat × Value) (fun (z0 : Nat × Value) => match z0 with | ⟨i, v⟩ => Z.hs.length - i) (fun (z0 : Nat × Value) (w' : World) => match z0 with | ⟨i, v⟩ => St w w.heap.size Z0J ([As.rk 87 2 v (Z18 (Z1r Z.abs i))]) w' ∧ i ≤ Z.hs.length) (fun (z0 : Nat × Value) => match z0 with | ⟨i, v⟩ => [(3, v), (4, .int .i64 (i : Int))]) [0] (0, .slice none 0 0) ?_ (.cons rfl .nil) ?_ ?_
 ·exact ⟨H0.nilk 87 2, ZO⟩
 ·exact (.cons rfl ZN (.cons rfl ZN .nil))
 rintro ⟨i, v⟩ w1 ⟨H1, hi⟩
 show RunC P _ _ _ (_ :: _) _
 refine Z03 (Z03 (Z00 (Zm (Zm (Z0b rfl rfl rfl (Z09 Z24 rfl rfl rfl ?_))))))
 refine Z05 (Z0r ((hZF.arg H1).hb)) mem0 rfl rfl underlying75 rfl rfl rfl ?_
 refine Z1B rfl rfl underlying75 rfl ((hZF.arg H1).hh) ?_
 refine Z0j (s := 10) (v' := .int .i64 (Z.hs.length : Int)) rfl (by rw [List.length_map]) ?_
 refine Zl ?_
 refine Z01 (Z02 ?_)
 refine Zk [0, 3, 4, 11] ?_
 (first | refine Z0c rfl ?_ ?_ | refine Z08 rfl ?_ ?_) <;> intro hc0
 ·refine Z0a (Z02 ?_)
  refine Zk [0, 3, 4] ?_
  refine Z03 (Z0d (Z03 (Z00 ?_)))
  have hml := Z2W Z.abs i
  have hsu := Z2N Z.abs i
  refine Zm (Zm ?_)
  refine Zc func37 (canR rb Z hwf i ZO w1 (hZF.arg H1)) ?_
  rintro _ w2 ⟨rfl, hG⟩
  have H2 := hG _ _ _ _ H1
  simp only [Zca, Zna] at H2
  refine Z01 (Z02 ?_)
  refine Zk [0, 3, 4, 16] ?_
  (first | refine Z0c rfl ?_ ?_ | refine Z08 rfl ?_ ?_) <;> intro hc1
  ·refine Z00 (Zm (Zm ?_))
   refine Z16 rfl rfl pl87 ta87 (.one rfl rfl ZR .zero .nil) ?_
   refine Z2t H2 rfl rfl underlying50 ti87 rfl rfl rfl (fun b6_3 w3 H3 => ?_)
   have H4 := St.frontL (l := [_]) H3
   simp only [Zca, Zna] at H4
   refine Z19 (r := [.int .i64 (i : Int), .int .i64 0]) H4 rfl rfl underlying50 ti87 rfl rfl rfl rfl (Z1M (H4.ok mem1)) (by simp [Value.oneCell']) (by rw [Z1m]; omega) (by rw [Z1m]; omega) (fun v6_4 w5 H5 => ?_)
   refine Zg (Z01 ?_)
   refine Z0F ?_
   refine Z02 ?_
   refine Zk [0, 3, 4] ?_
   refine Z00 (Zm ?_)
   refine Z0y rfl rfl rfl rfl (Z0l ZO) ?_
   refine Zg (Z01 ?_)
   have H6 := St.del (.tail .head) H5
   refine Z0p (i := (i, v)) (i + 1, v6_4) ?_ ?_ (.cons rfl .nil) ?_
   ·first | omega | (simp; omega)
   ·exact ⟨H6.cast (by rw [hsu, if_pos ZA]; simp [Z18]), ZO⟩
   exact (.cons rfl ZN (.cons rfl ZN .nil))
  refine Z0a ?_
  refine Z0F ?_
  refine Z02 ?_
  refine Zk [0, 3, 4] ?_
  refine Z00 (Zm ?_)
  refine Z0y rfl rfl rfl rfl (Z0l ZO) ?_
  refine Zg (Z01 ?_)
  refine Z0p (i := (i, v)) (i + 1, v) ?_ ?_ (.cons rfl .nil) ?_
  ·first | omega | (simp; omega)
  ·exact ⟨H2.cast (by rw [hsu, if_neg (by rw [hc1]; exact Bool.false_ne_true), List.append_nil]), ZO⟩
  exact (.cons rfl ZN (.cons rfl ZN .nil))
 refine Z0H ?_
 refine Z06 ?_
 refine Z06 ?_
 refine Z0h ?_
 refine Z02 ?_
 refine Zk [3] ?_
 refine Z03 (Z00 (Zm (Zg (Z01 (Z02 ?_)))))
 refine Zk [2] ?_
 refine Z0i ?_
 refine Z0e results24 rfl ?_
 refine ⟨_, rfl, ?_⟩
 obtain rfl : i = Z.hs.length := by omega
 refine ⟨v, rfl, (H1.cast ?_).grows⟩
 unfold Z0A
 rw [Z2i]
end Go.Proofs.YtgfkagaacdblbaaGreat.W
