/- walks of digit.Run, scan.like, scan.cut -/
import Derived.Test.YtgjgahmhoflgcaaGreatDoorFf
set_option linter.unusedVariables false
set_option linter.unusedSimpArgs false
set_option maxRecDepth 10000
namespace Go.Proofs.YtgjgahmhoflgcaaGreatDoor.W
open Go.Vc Go.RowKit Tryz
abbrev L8 := List UInt8
theorem Z59 (t : L8) (l h : Nat) : ((bys t).take h).drop l = bys ((t.take h).drop l) := by simp [bys, List.map_drop, List.map_take]
theorem or32 (c : UInt8) : bitw .or .u8 (c.toNat : Int) 32 = ((c ||| 32).toNat : Int) := by
 have key : ∀ k : Fin 256, bitw .or .u8 ((UInt8.ofNat k.val).toNat : Int) 32 = ((UInt8.ofNat k.val ||| 32).toNat : Int) := by decide +kernel
 have := key ⟨c.toNat, UInt8.toNat_lt c⟩
 simpa using this
theorem Z5U {c d : UInt8} : ((c.toNat : Int) = (d.toNat : Int)) ↔ c = d := by rw [Int.natCast_inj, UInt8.toNat_inj]
def like : L8 → L8 → Nat
 | c :: s, k :: w => if (c ||| 32) = k then like s w + 1 else 0
 | _, _ => 0
theorem Z5k : ∀ (s w : L8), like s w ≤ s.length ∧ like s w ≤ w.length
 | [], _ => by simp [like]
 | _ :: _, [] => by simp [like]
 | c :: s, k :: w => by
  have := Z5k s w
  simp only [like, List.length_cons]
  split <;> omega
theorem like_is : ∀ (s w : L8) (n : Nat), n ≤ s.length → n ≤ w.length → (∀ j, j < n → (s.getD j 0 ||| 32) = w.getD j 0) → (n < s.length → n < w.length → ¬ (s.getD n 0 ||| 32) = w.getD n 0) → like s w = n
 | [], w, n, h1, h2, h3, h4 => by simp at h1; subst h1; simp [like]
 | c :: s, [], n, h1, h2, h3, h4 => by simp at h2; subst h2; simp [like]
 | c :: s, k :: w, 0, h1, h2, h3, h4 => by
  have := h4 (by simp) (by simp)
  simp only [like]
  rw [if_neg (by simpa using this)]
 | c :: s, k :: w, n + 1, h1, h2, h3, h4 => by
  have h0 := h3 0 ZO
  simp only [like]
  rw [if_pos (by simpa using h0)]
  rw [like_is s w n (by simpa using h1) (by simpa using h2) (fun j hj => by simpa using h3 (j + 1) ZO) (fun a b => by simpa using h4 (by simpa using a) (by simpa using b))]
def infw : L8 := [105, 110, 102, 105, 110, 105, 116, 121]
def nanw : L8 := [110, 97, 110]
def expo (ds : L8) : Int := ds.foldl (fun x c => min (10 * x + ((c.toNat : Int) - 48)) 99999) 0
theorem Z6I (ds : L8) (c : UInt8) : expo (ds ++ [c]) = min (10 * expo ds + ((c.toNat : Int) - 48)) 99999 := by simp [expo]
def sgP (t : L8) (i : Nat) : Prop := ((t.getD i 0).toNat : Int) = 43 ∨ ((t.getD i 0).toNat : Int) = 45
instance (t : L8) (i : Nat) : Decidable (sgP t i) := by unfold sgP; infer_instance
def sg (t : L8) (i : Nat) : Nat := if i < t.length ∧ sgP t i then i + 1 else i
def ngb (t : L8) : Bool := decide (((t.getD 0 0).toNat : Int) = 45)
inductive Fr (t : L8) (a : Nat) : L8 → Nat → Prop
 | no (h : a < t.length → ¬ ((t.getD a 0).toNat : Int) = 46) : Fr t a [] a
 | yes (h1 : a < t.length) (h2 : ((t.getD a 0).toNat : Int) = 46) : Fr t a ((t.take (a + 1 + run (t.drop (a + 1)))).drop (a + 1)) (a + 1 + run (t.drop (a + 1)))
def eP (t : L8) (i : Nat) : Prop := ((t.getD i 0 ||| 32).toNat : Int) = 101
inductive CutR (t : L8) : Bool → Int → L8 → L8 → Int → Int → Bool → Prop
 | inf (h : 0 < like (t.drop (sg t 0)) infw) : CutR t (ngb t) 1 [] [] 0 ((sg t 0 : Int) + (like (t.drop (sg t 0)) infw : Int)) (decide ((sg t 0 : Int) + (like (t.drop (sg t 0)) infw : Int) = (t.length : Int) ∧ ((like (t.drop (sg t 0)) infw : Int) = 3 ∨ (like (t.drop (sg t 0)) infw : Int) = 8)))
 | nan (h0 : like (t.drop (sg t 0)) infw = 0) (h : 0 < like (t.drop (sg t 0)) nanw) : CutR t (ngb t) 2 [] [] 0 ((sg t 0 : Int) + (like (t.drop (sg t 0)) nanw : Int)) (decide ((sg t 0 : Int) + (like (t.drop (sg t 0)) nanw : Int) = (t.length : Int) ∧ (like (t.drop (sg t 0)) nanw : Int) = 3))
 | none {F : L8} {a1 a : Nat} (h0 : like (t.drop (sg t 0)) infw = 0) (h1 : like (t.drop (sg t 0)) nanw = 0) (e1 : a1 = sg t 0 + run (t.drop (sg t 0))) (hf : Fr t a1 F a) (hz : ((t.take a1).drop (sg t 0)).length + F.length = 0) : CutR t (ngb t) 0 ((t.take a1).drop (sg t 0)) F 0 (a : Int) false
 | plain {F : L8} {a1 a : Nat} (h0 : like (t.drop (sg t 0)) infw = 0) (h1 : like (t.drop (sg t 0)) nanw = 0) (e1 : a1 = sg t 0 + run (t.drop (sg t 0))) (hf : Fr t a1 F a) (hz : 0 < ((t.take a1).drop (sg t 0)).length + F.length) (he : a < t.length → ¬ eP t a) : CutR t (ngb t) 0 ((t.take a1).drop (sg t 0)) F 0 (a : Int) (decide ((a : Int) = (t.length : Int)))
 | bad {F : L8} {a1 a a4 : Nat} (h0 : like (t.drop (sg t 0)) infw = 0) (h1 : like (t.drop (sg t 0)) nanw = 0) (e1 : a1 = sg t 0 + run (t.drop (sg t 0))) (hf : Fr t a1 F a) (hz : 0 < ((t.take a1).drop (sg t 0)).length + F.length) (ha : a < t.length) (he : eP t a) (e4 : a4 = sg t (a + 1)) (hr : run (t.drop a4) = 0) : CutR t (ngb t) 0 ((t.take a1).drop (sg t 0)) F 0 (a4 : Int) false
 | exp {F : L8} {a1 a a4 j : Nat} {x : Int} (h0 : like (t.drop (sg t 0)) infw = 0) (h1 : like (t.drop (sg t 0)) nanw = 0) (e1 : a1 = sg t 0 + run (t.drop (sg t 0))) (hf : Fr t a1 F a) (hz : 0 < ((t.take a1).drop (sg t 0)).length + F.length) (ha : a < t.length) (he : eP t a) (e4 : a4 = sg t (a + 1)) (hj : j = run (t.drop a4)) (hr : 0 < j)
   (hx : x = if ((t.getD (a + 1) 0).toNat : Int) = 45 then 0 - expo ((t.drop a4).take j) else expo ((t.drop a4).take j)) : CutR t (ngb t) 0 ((t.take a1).drop (sg t 0)) F x ((a4 + j : Nat) : Int) (decide (((a4 + j : Nat) : Int) = (t.length : Int)))
theorem Z7j (t : L8) {i : Nat} (h : i ≤ t.length) : i ≤ sg t i ∧ sg t i ≤ t.length ∧ sg t i ≤ i + 1 := by unfold sg; split <;> omega
theorem Z4X (t : L8) (a : Nat) (h : a ≤ t.length) : a + run (t.drop a) ≤ t.length := by
 have := Z6y (t.drop a)
 rw [List.length_drop] at this
 omega
theorem Z64 (t : L8) {l h : Nat} (h1 : h ≤ t.length) : ((t.take h).drop l).length = h - l := by rw [List.length_drop, List.length_take]; omega
theorem Z5u (v : Value) (l : List UInt8) (hv0 : l.length ≤ 140737488355328) (a : Nat) (ha : a ≤ l.length) (w : World) (hv : IB w v l) :
  Z0f P 147 [v, .int .i64 (a : Int)] w fun r w' => r = .int .i64 (run (l.drop a) : Int) ∧ w = w' := by
 refine Z0o func147 rfl ntmps147 rfl ?_
 refine Z03 (Z00 (Zg (Z01 (Z02 ?_))))
 refine Zk [0, 1] ?_
 refine Z03 (Z03 (Z00 (Zm ?_)))
 refine Zl ?_
 refine Zm ?_
 apply l_or 4 [0, 1] rfl rfl (.cons rfl (.cons rfl (.cons rfl .nil))) rfl rfl (fun _ => rfl) rfl rfl rfl
 ·intro hg1_3
  refine Zm (Zm ?_)
  refine Z4W rfl rfl underlying25 rfl (by first | exact hv | exact h4_2 | assumption) ?_
  refine Zh ?_
  refine Z01 ?_
  exact Z0O rfl (.cons rfl (ZF hg1_3) (.cons rfl rfl (.cons rfl rfl .nil)))
 refine Z01 (Z02 ?_)
 refine Zk [0, 1, 15] ?_
 (first | refine Z0c rfl ?_ ?_ | refine Z08 rfl ?_ ?_) <;> intro hc0
 ·refine Z03 (Z00 (Zg (Z01 (Z02 ?_))))
  refine Zk [4] ?_
  refine Z0i ?_
  refine Z07 ?_
  refine Z0e results147 rfl ?_
  refine ⟨_, rfl, ?_⟩
  refine ⟨congrArg (Value.int .i64) ?_, rfl⟩
  have : l.drop a = [] := List.drop_eq_nil_of_le ZO
  rw [this]
  rfl
 refine Z0a (Z02 ?_)
 refine Zk [0, 1] ?_
 refine Z03 (Z00 (Zg (Z01 (Z02 (Z03 (Z03 (Z00 (Zm (Zm ?_)))))))))
 refine Z5B (l := a) (h := l.length) rfl rfl underlying25 tz5 rfl rfl rfl rfl hv ZD ZD (.inl rfl) (by simp) ZO ZI (fun v4_2 h4_2 ho4_2 => ?_)
 rw [Z59, List.take_length] at h4_2
 refine Z4W rfl rfl underlying25 rfl (by first | exact hv | exact h4_2 | assumption) ?_
 refine Zm (Z01 (Z02 ?_))
 refine Zk [5, 18, 19, 20] ?_
 refine Z0d ?_
 refine Z0z (ι := Nat) (fun (k : Nat) => (l.drop a).length - k) (fun (k : Nat) (w' : World) => w = w' ∧ k ≤ (l.drop a).length ∧ ∀ j, j < k → isD ((l.drop a).getD j 0)) (fun (k : Nat) => [(5, .int .i64 (k : Int)), (20, .int .i64 (k : Int))]) [18, 19] (0) ?_ (.cons rfl (.cons rfl .nil)) ?_ ?_
 ·exact ⟨rfl, ZO, fun j hj => by omega⟩
 ·exact (.cons rfl ZN (.cons rfl ZN .nil))
 rintro k _ ⟨rfl, hk, hd⟩
 show RunC P _ _ _ (_ :: _) _
 refine Z03 (Z00 ?_)
 refine Zl ?_
 refine Z01 (Z02 (Z03 ?_))
 (first | refine Z0c rfl ?_ ?_ | refine Z08 rfl ?_ ?_) <;> intro hc1
 ·refine Z0a (Z02 ?_)
  refine Zk [5, 18, 19, 20] ?_
  refine Z03 (Z0d (Z03 (Z00 ?_)))
  have hdl : (l.drop a).length = l.length - a := List.length_drop
  refine Z4Z rfl rfl rfl rfl underlying25 tz5 underlying5 rfl rfl (by first | exact hv | exact h4_2 | assumption) rfl rfl ZI (fun hb6_0 => ?_)
  refine Zg (Z01 (Z02 ?_))
  refine Zk [5, 7, 18, 19, 20] ?_
  refine Z03 (Z03 (Z00 (Zm ?_)))
  refine Z13 rfl rfl func195 rfl rfl (.cons rfl .nil) (Z67 _ _) ?_
  first | refine Z38 rfl rfl rfl ?_ | refine Z3v rfl rfl rfl ?_
  refine Z01 (Z02 ?_)
  refine Zk [5, 18, 19, 20, 26] ?_
  (first | refine Z0c rfl ?_ ?_ | refine Z08 rfl ?_ ?_) <;> intro hc2
  ·refine Z0H ?_
   refine Z06 ?_
   refine Z62 rfl ?_
   refine Z06 ?_
   refine Z06 ?_
   refine Z0h ?_
   refine Z02 ?_
   refine Zk [5] ?_
   refine Z03 (Z00 (Zm (Zg (Z01 (Z02 ?_)))))
   refine Zk [4] ?_
   refine Z0i ?_
   refine Z0e results147 rfl ?_
   refine ⟨_, rfl, ?_⟩
   refine ⟨congrArg (Value.int .i64) (congrArg Nat.cast ?_), rfl⟩
   exact (run_is _ k hd hk fun h => hc2).symm
  refine Z0a (Z02 ?_)
  refine Zk [5, 18, 19, 20] ?_
  refine Z00 (Zm ?_)
  refine Z0y rfl rfl rfl rfl (Z0l ZO) ?_
  refine Zg (Z01 ?_)
  refine Z0F ?_
  refine Z02 ?_
  refine Zk [5, 18, 19, 20] ?_
  refine Z00 ?_
  refine Z0y rfl rfl rfl rfl (Z0l ZO) ?_
  refine Zm (Z01 ?_)
  refine Z0p (i := (k)) (k + 1) ?_ ?_ (.cons rfl (.cons rfl .nil)) ?_
  ·first | omega | (simp; omega)
  ·refine ⟨rfl, ZO, fun j hj => ?_⟩
   rcases Nat.lt_or_ge j k with h | h
   ·exact hd j h
   obtain rfl : j = k := by omega
   exact Classical.byContradiction hc2
  exact (.cons rfl ZN (.cons rfl ZN .nil))
 refine Z0H ?_
 refine Z06 ?_
 refine Z06 ?_
 refine Z0h ?_
 refine Z02 ?_
 refine Zk [5] ?_
 refine Z03 (Z00 (Zm (Zg (Z01 (Z02 ?_)))))
 refine Zk [4] ?_
 refine Z0i ?_
 refine Z0e results147 rfl ?_
 refine ⟨_, rfl, ?_⟩
 refine ⟨congrArg (Value.int .i64) (congrArg Nat.cast ?_), rfl⟩
 exact (run_is _ k hd hk fun h => absurd h ZO).symm
theorem likeS (v : Value) (t d : L8) (hL : t.length ≤ 1099511627776) (hLd : d.length ≤ 1099511627776) (w : World) (hv : IB w v t) :
  Z0f P 278 [v, str d] w fun r w' => r = .int .i64 (like t d : Int) ∧ Grow w w' [] := by
 refine Z0o func278 rfl ntmps278 rfl ?_
 have H0 := St.start w
 refine Z03 (Z00 (Zg (Z01 (Z02 ?_))))
 refine Zk [0, 1] ?_
 refine Z03 (Z00 (Zg (Z01 (Z02 (Z03 (Z0d ?_))))))
 refine Z0z (ι := Nat) (fun (k : Nat) => t.length - k) (fun (k : Nat) (w' : World) => St w w.heap.size Z0J ([]) w' ∧ k ≤ t.length ∧ k ≤ d.length ∧ ∀ j, j < k → (t.getD j 0 ||| 32) = d.getD j 0) (fun (k : Nat) => [(5, .int .i64 (k : Int))]) [0, 1] (0) ?_ (.cons rfl (.cons rfl .nil)) ?_ ?_
 ·exact ⟨H0, ZO, ZO, fun j hj => by omega⟩
 ·exact (.cons rfl ZN .nil)
 rintro k w1 ⟨H1, hk, hkd, heq⟩
 show RunC P _ _ _ (_ :: _) _
 refine Z03 (Z03 ?_)
 refine Z2F ZK ZK ?_
 have H2 := H1.drewn
 refine Zm (Zm ?_)
 refine Z4W rfl rfl underlying25 rfl (by first | exact H2.iarg hv | assumption) ?_
 refine Zl ?_
 refine Zm ?_
 apply Z47 4 [0, 1, 5] rfl rfl (.cons rfl (.cons rfl (.cons rfl (.cons rfl .nil)))) rfl rfl (fun _ => rfl) rfl rfl rfl
 ·intro hg2_5
  refine Zm (Zm ?_)
  refine Z5f rfl rfl underlying9 rfl ?_
  refine Zl ?_
  refine Z01 ?_
  exact Z0O rfl (.cons rfl (ZT hg2_5) (.cons rfl rfl (.cons rfl rfl (.cons rfl rfl .nil))))
 refine Zm ?_
 apply Z47 9 [0, 1, 5] rfl rfl (.cons rfl (.cons rfl (.cons rfl (.cons rfl .nil)))) rfl rfl (fun _ => rfl) rfl rfl rfl
 ·intro hg2_11
  refine Zm (Zm ?_)
  refine Z4Z rfl rfl rfl rfl underlying25 tz5 underlying5 rfl rfl (by first | exact H2.iarg hv | assumption) rfl rfl ZI (fun hb2_13 => ?_)
  refine Z1i rfl rfl rfl rfl rfl (or32 _) ?_
  refine Zm (Zm ?_)
  refine Z6m rfl rfl underlying9 rfl rfl rfl ZI (fun hb2_18 => ?_)
  refine Ze ?_
  refine Z01 ?_
  exact Z0O rfl (.cons rfl (ZT hg2_11) (.cons rfl rfl (.cons rfl rfl (.cons rfl rfl .nil))))
 refine Z01 (Z02 ?_)
 refine Zk [0, 1, 5, 26] ?_
 (first | refine Z0c rfl ?_ ?_ | refine Z08 rfl ?_ ?_) <;> intro hc0
 ·refine Z0a (Z02 ?_)
  refine Zk [0, 1, 5] ?_
  refine Z0d (Z00 (Zm ?_))
  refine Z0y rfl rfl rfl rfl (Z0l ZO) ?_
  refine Zg (Z01 ?_)
  refine Z0F ?_
  refine Z0p (i := (k)) (k + 1) ?_ ?_ (.cons rfl (.cons rfl .nil)) ?_
  ·first | omega | (simp; omega)
  ·refine ⟨H2, ZO, ZO, fun j hj => ?_⟩
   rcases Nat.lt_or_ge j k with h | h
   ·exact heq j h
   obtain rfl : j = k := by omega
   exact Z5U.1 hc0.2
  exact (.cons rfl ZN .nil)
 refine Z0H ?_
 refine Z06 ?_
 refine Z06 ?_
 refine Z0h ?_
 refine Z02 ?_
 refine Zk [5] ?_
 refine Z03 (Z00 (Zm (Zg (Z01 (Z02 ?_)))))
 refine Zk [4] ?_
 refine Z0i ?_
 refine Z0e results278 rfl ?_
 refine ⟨_, rfl, ?_⟩
 exact ⟨congrArg (Value.int .i64) (congrArg Nat.cast (like_is t d k hk hkd heq fun h1 h2 h3 => hc0 ⟨⟨ZO, ZO⟩, Z5U.2 h3⟩).symm), H2.grows⟩
theorem take_snoc_drop (t : L8) {a j : Nat} (h : a + j < t.length) : (t.drop a).take (j + 1) = (t.drop a).take j ++ [t.getD (a + j) 0] := by
 rw [List.take_succ_eq_append_getElem (by rw [List.length_drop]; omega)]
 simp [List.getD, h]
theorem Z6J {t : L8} {i : Nat} (h : i < t.length) (hs : sgP t i) : sg t i = i + 1 := if_pos ⟨h, hs⟩
theorem sg_no {t : L8} {i : Nat} (h : ¬ (i < t.length ∧ sgP t i)) : sg t i = i := if_neg h
theorem ngb_no {t : L8} (h : ¬ ((0 : Int) < (t.length : Int) ∧ (((t.getD 0 0).toNat : Int) = 43 ∨ ((t.getD 0 0).toNat : Int) = 45))) : ngb t = false := by
 unfold ngb
 rw [decide_eq_false_iff_not]
 intro e
 cases t with
 | nil => simp at e
 | cons c t => exact h ⟨by simp, .inr e⟩
theorem cutS (v : Value) (t : L8) (hL : t.length ≤ 1099511627776) (w : World) (wr : World) (hv : IB w v t) (hvr : IB wr v t) :
  Z0f P 259 [v] w fun r w' => ∃ ng wd vw vf W F x at' ok, r = .tuple #[.agg #[.bool ng, .int .i64 wd, vw, vf, .int .i64 x], .int .i64 at', .bool ok] ∧ CutR t ng wd W F x at' ok ∧ IV wr vw (bys W) ∧ IV wr vf (bys F) ∧ Grow w w' [] := by
 refine Z0o func259 rfl ntmps259 rfl ?_
 have H0 := St.start w
 have hnil := IV.nil wr
 have hs0 := Z7j t (i := 0) ZO
 have hr0 := Z4X t (sg t 0) ZO
 refine Z03 (Z00 ?_)
 refine Z0X H0 ta311 rfl rfl (fun b0_0 w1 H1 => ?_)
 refine Zg (Zg (Z01 (Z02 ?_)))
 refine Zk [0, 2, 3] ?_
 refine c_scope 6 ?_
 refine Z1q (ι := Bool × Nat) (fun (z0 : Bool × Nat) (w' : World) => match z0 with | ⟨ng, k⟩ => St w w.heap.size Z0J ([As.blk b0_0 311 [.bool ng, .int .i64 0, .slice none 0 0, .slice none 0 0, .int .i64 0]]) w' ∧ ng = ngb t ∧ k = sg t 0) (fun (z0 : Bool × Nat) => match z0 with | ⟨ng, k⟩ => [(3, .int .i64 (k : Int))]) [0, 2] (.cons rfl (.cons rfl .nil)) ?_ ?_
 ·refine Z03 (Z00 (Zm ?_))
  refine Z4W rfl rfl underlying25 rfl (by first | exact H1.ibl mem0 | exact H1.iarg hv | assumption) ?_
  refine Zw ?_
  refine Zm ?_
  apply Z47 10 [0, 2, 3] rfl rfl (.cons rfl (.cons rfl (.cons rfl (.cons rfl .nil)))) rfl rfl (fun _ => rfl) rfl rfl rfl
  ·intro hg1_4
   refine Zm ?_
   refine Z4Z (j := 0) rfl rfl rfl rfl underlying25 tz5 underlying5 rfl rfl (by first | exact H1.ibl mem0 | exact H1.iarg hv | assumption) rfl ZO ZI (fun hb1_5 => ?_)
   refine Ze ?_
   refine Zm ?_
   apply l_or 4 [0, 2, 3, 11] rfl rfl (.cons rfl (.cons rfl (.cons rfl (.cons rfl (.cons rfl .nil))))) rfl rfl (fun _ => rfl) rfl rfl rfl
   ·intro hg1_9
    refine Zm ?_
    refine Z4Z (j := 0) rfl rfl rfl rfl underlying25 tz5 underlying5 rfl rfl (by first | exact H1.ibl mem0 | exact H1.iarg hv | assumption) rfl ZO ZI (fun hb1_10 => ?_)
    refine Ze ?_
    refine Z01 ?_
    exact Z0O rfl (.cons rfl (ZF hg1_9) (.cons rfl rfl (.cons rfl rfl (.cons rfl rfl (.cons rfl rfl .nil)))))
   refine Z01 ?_
   exact Z0O rfl (.cons rfl (ZT hg1_4) (.cons rfl rfl (.cons rfl rfl (.cons rfl rfl .nil))))
  refine Z01 (Z02 ?_)
  refine Zk [0, 2, 3, 22] ?_
  (first | refine Z0c rfl ?_ ?_ | refine Z08 rfl ?_ ?_) <;> intro hc0
  ·refine Z03 (Z00 (Zm ?_))
   refine Z4Z (j := 0) rfl rfl rfl rfl underlying25 tz5 underlying5 rfl rfl (by first | exact H1.ibl mem0 | exact H1.iarg hv | assumption) rfl ZO ZI (fun hb2_1 => ?_)
   refine Ze ?_
   refine Z09 fo311_0 rfl rfl rfl ?_
   refine Z0s H1 .head (by repeat (first | exact .zero | apply Z1F.succ)) rfl tz4 rfl rfl ZR (fun w2 H2 => ?_)
   refine Z01 (Z02 ?_)
   refine Zk [0, 2] ?_
   refine Z00 (Zg (Z01 ?_))
   refine Z0w (decide (((t.getD 0 0).toNat : Int) = 45), 1) ?_ (.cons rfl (.cons rfl .nil)) ?_
   ·exact ⟨H2, rfl, (Z6J ZO hc0.2).symm⟩
   exact (.cons rfl ZN .nil)
  refine Z0a ?_
  refine Z0w (false, 0) ?_ (.cons rfl (.cons rfl .nil)) ?_
  ·exact ⟨H1, (ngb_no hc0).symm, (sg_no (fun h => hc0 ⟨ZO, h.2⟩)).symm⟩
  exact (.cons rfl ZN .nil)
 rintro ⟨ng, k⟩ w3 ⟨H3, rfl, rfl⟩
 show RunC P _ _ _ (_ :: _) _
 refine Z03 (Z00 (Zm (Zg (Z01 (Z02 ?_)))))
 refine Zk [0, 2, 3, 5] ?_
 refine Z03 (Z03 (Z00 (Zm (Zm ?_))))
 refine Z5B (l := sg t 0) (h := t.length) rfl rfl underlying25 tz5 rfl rfl rfl rfl hv ZD ZD (.inl rfl) (by simp) ZO ZI (fun v5_2 h5_2 ho5_2 => ?_)
 rw [Z59, List.take_length] at h5_2
 refine Z0I rfl rfl func278 rfl rfl (.cons rfl (.cons rfl .nil)) (likeS _ (t.drop (sg t 0)) infw (by rw [List.length_drop]; omega) (by decide) w3 (H3.iarg h5_2)) ?_
 rintro _ w4 ⟨rfl, hG⟩
 have H4 := hG _ _ _ _ H3
 simp only [Zca, Zna] at H4
 refine Zg (Z01 (Z02 ?_))
 refine Zk [0, 2, 3, 5, 6] ?_
 refine Z03 (Z00 ?_)
 have hl1 := Z5k (t.drop (sg t 0)) infw
 rw [List.length_drop] at hl1
 refine Zm ?_
 refine Zw ?_
 refine Z01 (Z02 ?_)
 refine Zk [0, 2, 3, 5, 6, 34] ?_
 (first | refine Z0c rfl ?_ ?_ | refine Z08 rfl ?_ ?_) <;> intro hc1
 ·refine Z03 (Z00 (Z09 Z6i rfl rfl rfl ?_))
  refine Z0s H4 .head (by repeat (first | exact .zero | apply Z1F.succ)) rfl tz3 rfl rfl ZR (fun w5 H5 => ?_)
  refine Z01 (Z02 ?_)
  refine Zk [0, 2, 3, 6] ?_
  refine Z03 (Z00 ?_)
  refine Z1b H5 mem0 rfl rfl underlying311 rfl Z51 rfl (.take (.take (.take (.take (.take .nil))))) ?_
  refine Zm (Zm ?_)
  refine Z0y rfl rfl rfl rfl (Z0l ZO) ?_
  refine Zm (Zm ?_)
  refine Z0y rfl rfl rfl rfl (Z0l ZO) ?_
  refine Zm ?_
  refine Z4W rfl rfl underlying25 rfl (by first | exact H5.ibl mem0 | exact H5.iarg hv | assumption) ?_
  refine Ze ?_
  refine Zm ?_
  apply Z47 6 [2, 3, 36, 39] rfl rfl (.cons rfl (.cons rfl (.cons rfl (.cons rfl (.cons rfl .nil))))) rfl rfl (fun _ => rfl) rfl rfl rfl
  ·intro hg8_11
   refine Zm ?_
   refine Ze ?_
   refine Zm ?_
   apply l_or 2 [2, 3, 36, 39, 46] rfl rfl (.cons rfl (.cons rfl (.cons rfl (.cons rfl (.cons rfl (.cons rfl .nil)))))) rfl rfl (fun _ => rfl) rfl rfl rfl
   ·intro hg8_14
    refine Zm ?_
    refine Ze ?_
    refine Z01 ?_
    exact Z0O rfl (.cons rfl (ZF hg8_14) (.cons rfl rfl (.cons rfl rfl (.cons rfl rfl (.cons rfl rfl (.cons rfl rfl .nil))))))
   refine Z01 ?_
   exact Z0O rfl (.cons rfl (ZT hg8_11) (.cons rfl rfl (.cons rfl rfl (.cons rfl rfl (.cons rfl rfl .nil)))))
  refine Z0m H5 .head (.zero (.zero (.zero (.zero (.zero .nil))))) rfl Z51 rfl rfl ZC (fun w6 H6 => ?_)
  refine Zg (Zg (Z01 (Z02 ?_)))
  refine Zk [2, 3, 4] ?_
  refine Z0i ?_
  refine Z07 ?_
  refine Z5d ?_
  refine Z12 results259 (.cell rfl (Z0E H6 mem0 underlying311 rfl Z51 (.take (.take (.take (.take (.take .nil)))))) (.tmp rfl (.tmp rfl .nil))) rfl ?_
  refine ⟨_, rfl, ?_⟩
  have H7 := St.del .head H6
  exact ⟨_, _, _, _, _, _, _, _, _, rfl, .inf ZO, hnil, hnil, H7.grows⟩
 refine Z0a (Z02 ?_)
 refine Zk [0, 2, 3, 5] ?_
 refine Z03 (Z03 (Z00 (Zm (Zm ?_))))
 refine Z5B (l := sg t 0) (h := t.length) rfl rfl underlying25 tz5 rfl rfl rfl rfl hv ZD ZD (.inl rfl) (by simp) ZO ZI (fun v9_2 h9_2 ho9_2 => ?_)
 rw [Z59, List.take_length] at h9_2
 refine Z0I rfl rfl func278 rfl rfl (.cons rfl (.cons rfl .nil)) (likeS _ (t.drop (sg t 0)) nanw (by rw [List.length_drop]; omega) (by decide) w4 (H4.iarg h9_2)) ?_
 rintro _ w8 ⟨rfl, hG⟩
 have H8 := hG _ _ _ _ H4
 simp only [Zca, Zna] at H8
 refine Zg (Z01 (Z02 ?_))
 refine Zk [0, 2, 3, 5, 7] ?_
 refine Z03 (Z00 ?_)
 have hl2 := Z5k (t.drop (sg t 0)) nanw
 rw [List.length_drop] at hl2
 refine Zm ?_
 refine Zw ?_
 refine Z01 (Z02 ?_)
 refine Zk [0, 2, 3, 5, 7, 59] ?_
 (first | refine Z0c rfl ?_ ?_ | refine Z08 rfl ?_ ?_) <;> intro hc2
 ·refine Z03 (Z00 (Z09 Z6i rfl rfl rfl ?_))
  refine Z0s H8 .head (by repeat (first | exact .zero | apply Z1F.succ)) rfl tz3 rfl rfl ZR (fun w9 H9 => ?_)
  refine Z01 (Z02 ?_)
  refine Zk [0, 2, 3, 7] ?_
  refine Z03 (Z00 ?_)
  refine Z1b H9 mem0 rfl rfl underlying311 rfl Z51 rfl (.take (.take (.take (.take (.take .nil))))) ?_
  refine Zm (Zm ?_)
  refine Z0y rfl rfl rfl rfl (Z0l ZO) ?_
  refine Zm (Zm ?_)
  refine Z0y rfl rfl rfl rfl (Z0l ZO) ?_
  refine Zm ?_
  refine Z4W rfl rfl underlying25 rfl (by first | exact H9.ibl mem0 | exact H9.iarg hv | assumption) ?_
  refine Ze ?_
  refine Zm ?_
  apply Z47 2 [2, 3, 61, 64] rfl rfl (.cons rfl (.cons rfl (.cons rfl (.cons rfl (.cons rfl .nil))))) rfl rfl (fun _ => rfl) rfl rfl rfl
  ·intro hg12_11
   refine Zm ?_
   refine Ze ?_
   refine Z01 ?_
   exact Z0O rfl (.cons rfl (ZT hg12_11) (.cons rfl rfl (.cons rfl rfl (.cons rfl rfl (.cons rfl rfl .nil)))))
  refine Z0m H9 .head (.zero (.zero (.zero (.zero (.zero .nil))))) rfl Z51 rfl rfl ZC (fun w10 H10 => ?_)
  refine Zg (Zg (Z01 (Z02 ?_)))
  refine Zk [2, 3, 4] ?_
  refine Z0i ?_
  refine Z07 ?_
  refine Z5d ?_
  refine Z12 results259 (.cell rfl (Z0E H10 mem0 underlying311 rfl Z51 (.take (.take (.take (.take (.take .nil)))))) (.tmp rfl (.tmp rfl .nil))) rfl ?_
  refine ⟨_, rfl, ?_⟩
  have H11 := St.del .head H10
  exact ⟨_, _, _, _, _, _, _, _, _, rfl, .nan ZO ZO, hnil, hnil, H11.grows⟩
 refine Z0a (Z02 ?_)
 refine Zk [0, 2, 3, 5] ?_
 refine Z03 (Z00 (Zm (Zm (Zm ?_))))
 refine Zp func147 (Z5u v t ZO (sg t 0) ZO w8 (H8.iarg hv)) ?_
 refine Z0y rfl rfl rfl rfl (Z0l ZO) ?_
 refine Zg (Z01 (Z02 ?_))
 refine Zk [0, 2, 3, 5] ?_
 refine Z03 (Z00 ?_)
 obtain ⟨a1, ha1⟩ : ∃ a1 : Nat, a1 = sg t 0 + run (t.drop (sg t 0)) := ⟨_, rfl⟩
 refine Z0j (s := 3) (v' := .int .i64 (a1 : Int)) rfl (by rw [ha1, Int.natCast_add]) ?_
 refine Zm (Zm (Zm ?_))
 refine Z5B (l := sg t 0) (h := a1) rfl rfl underlying25 tz5 rfl rfl rfl rfl hvr ZD ZD (.inl rfl) (by simp) ZO ZI (fun v14_3 h14_3 ho14_3 => ?_)
 rw [Z59] at h14_3
 have hone1 := Z52 h14_3
 refine Z09 Z74 rfl rfl rfl ?_
 refine Z0s H8 .head (by repeat (first | exact .zero | apply Z1F.succ)) rfl tz25 rfl rfl ZR (fun w12 H12 => ?_)
 refine Z01 (Z02 ?_)
 refine Zk [0, 2, 3] ?_
 refine Z03 (Z03 (Z00 (Zm (Zm ?_))))
 refine Z4W rfl rfl underlying25 rfl (by first | exact H12.ibl mem0 | exact H12.iarg hv | assumption) ?_
 refine Ze ?_
 refine Zm ?_
 apply l_or 5 [0, 2, 3] rfl rfl (.cons rfl (.cons rfl (.cons rfl (.cons rfl .nil)))) rfl rfl (fun _ => rfl) rfl rfl rfl
 ·intro hg15_5
  refine Zm (Zm ?_)
  refine Z4Z (j := a1) rfl rfl rfl rfl underlying25 tz5 underlying5 rfl rfl (by first | exact H12.ibl mem0 | exact H12.iarg hv | assumption) rfl ZO ZI (fun hb15_7 => ?_)
  refine Zo ?_
  refine Z01 ?_
  exact Z0O rfl (.cons rfl (ZF hg15_5) (.cons rfl rfl (.cons rfl rfl (.cons rfl rfl .nil))))
 refine Z01 (Z02 ?_)
 refine Zk [0, 2, 3, 95] ?_
 (first | refine Z0c rfl ?_ ?_ | refine Z08 rfl ?_ ?_) <;> intro hc3
 ·refine c_goto ?_
  refine Z61 ?_
  refine Z6A (show _ = some _ from rfl) ?_
  refine Zk [0, 2, 3] ?_
  refine Z03 (Z0a (Z02 (Z03 (Z03 (Z00 ?_)))))
  obtain ⟨vf, hvfe⟩ : ∃ vf : Value, vf = .slice none 0 0 := ⟨_, rfl⟩
  obtain ⟨F, hFe⟩ : ∃ F : L8, F = [] := ⟨_, rfl⟩
  obtain ⟨a2, ha2⟩ : ∃ a2 : Nat, a2 = a1 := ⟨_, rfl⟩
  have hvf : IV wr vf (bys F) := by
   rw [hvfe, hFe]
   first | exact IV.nil wr | assumption
  have hfr : Fr t a1 F a2 := by
   rw [hFe, ha2]
   exact .no (fun h => by omega)
  have ha2l : a2 ≤ t.length := by omega
  have honef := Z52 hvf
  have hFl : F.length ≤ t.length := by
   rw [hFe]
   first | (rw [Z64 t ZO]; omega) | simp
  have hWl := Z64 t (l := sg t 0) (h := a1) ZO
  refine Z0j (s := 3) (v' := .int .i64 (a2 : Int)) rfl (by first | (rw [ha2]; done) | (rw [ha2]; simp only [Int.natCast_add]; done)) ?_
  have H13 := H12.cast (show _ = [As.blk b0_0 311 [.bool (ngb t), .int .i64 0, v14_3, vf, .int .i64 0]] from by rw [hvfe])
  refine Z09 Z74 rfl rfl rfl ?_
  refine Z05 H13 mem0 rfl rfl underlying25 rfl rfl rfl ?_
  refine Z4W rfl rfl underlying25 rfl (by first | exact H13.ibl mem0 | exact H13.iarg hv | assumption) ?_
  refine Z09 Z6j rfl rfl rfl ?_
  refine Z05 H13 mem0 rfl rfl underlying25 rfl rfl rfl ?_
  refine Z4W rfl rfl underlying25 rfl (by first | exact H13.ibl mem0 | exact H13.iarg hv | assumption) ?_
  refine Z0y rfl rfl rfl rfl (Z0l ZO) ?_
  refine Ze ?_
  refine Z01 (Z02 ?_)
  refine Zk [0, 2, 3, 116] ?_
  (first | refine Z0c rfl ?_ ?_ | refine Z08 rfl ?_ ?_) <;> intro hc4
  ·refine Z03 (Z00 ?_)
   refine Z1b H13 mem0 rfl rfl underlying311 rfl Z51 rfl (.take (.take (.take (.take (.take .nil))))) ?_
   refine Zm ?_
   refine Z0m H13 .head (.zero (.zero (.zero (.zero (.zero .nil))))) rfl Z51 rfl rfl ZC (fun w14 H14 => ?_)
   refine Zg (Zg (Z01 (Z02 ?_)))
   refine Zk [2, 3, 4] ?_
   refine Z0i ?_
   refine Z07 ?_
   refine Z5d ?_
   refine Z12 results259 (.cell rfl (Z0E H14 mem0 underlying311 rfl Z51 (.take (.take (.take (.take (.take .nil)))))) (.tmp rfl (.tmp rfl .nil))) rfl ?_
   refine ⟨_, rfl, ?_⟩
   have H15 := St.del .head H14
   exact ⟨_, _, _, _, _, _, _, _, _, rfl, .none ZO ZO ha1 hfr ZO, h14_3, hvf, H15.grows⟩
  refine Z0a (Z02 ?_)
  refine Zk [0, 2, 3] ?_
  refine Z03 (Z03 (Z00 (Zm (Zm ?_))))
  refine Z4W rfl rfl underlying25 rfl (by first | exact H13.ibl mem0 | exact H13.iarg hv | assumption) ?_
  refine Ze ?_
  refine Zm ?_
  apply l_or 6 [0, 2, 3] rfl rfl (.cons rfl (.cons rfl (.cons rfl (.cons rfl .nil)))) rfl rfl (fun _ => rfl) rfl rfl rfl
  ·intro hg22_5
   refine Zm (Zm ?_)
   refine Z4Z (j := a2) rfl rfl rfl rfl underlying25 tz5 underlying5 rfl rfl (by first | exact H13.ibl mem0 | exact H13.iarg hv | assumption) rfl ZO ZI (fun hb22_7 => ?_)
   refine Z1i rfl rfl rfl rfl rfl (or32 _) ?_
   refine Zo ?_
   refine Z01 ?_
   exact Z0O rfl (.cons rfl (ZF hg22_5) (.cons rfl rfl (.cons rfl rfl (.cons rfl rfl .nil))))
  refine Z01 (Z02 ?_)
  refine Zk [0, 2, 3, 130] ?_
  (first | refine Z0c rfl ?_ ?_ | refine Z08 rfl ?_ ?_) <;> intro hc5
  ·refine c_goto ?_
   refine Z61 ?_
   refine Z6A (show _ = some _ from rfl) ?_
   refine Zk [0, 2, 3] ?_
   refine Z03 (Z0a (Z02 (Z03 (Z00 ?_))))
   refine Z1b H13 mem0 rfl rfl underlying311 rfl Z51 rfl (.take (.take (.take (.take (.take .nil))))) ?_
   refine Zm (Zm (Zm ?_))
   refine Z4W rfl rfl underlying25 rfl (by first | exact H13.ibl mem0 | exact H13.iarg hv | assumption) ?_
   refine Ze ?_
   refine Z0m H13 .head (.zero (.zero (.zero (.zero (.zero .nil))))) rfl Z51 rfl rfl ZC (fun w16 H16 => ?_)
   refine Zg (Zg (Z01 (Z02 ?_)))
   refine Zk [2, 3, 4] ?_
   refine Z0i ?_
   refine Z5d ?_
   refine Z12 results259 (.cell rfl (Z0E H16 mem0 underlying311 rfl Z51 (.take (.take (.take (.take (.take .nil)))))) (.tmp rfl (.tmp rfl .nil))) rfl ?_
   refine ⟨_, rfl, ?_⟩
   have H17 := St.del .head H16
   first | exact ⟨_, _, _, _, _, _, _, _, _, rfl, .exp ZO ZO ha1 hfr ZO ZO (show ((t.getD a2 0 ||| 32).toNat : Int) = 101 by omega) ha4 hjr ZO (by first | rw [if_pos ZA, ← hx] | rw [if_neg ZA, ← hx]), h14_3, hvf, H17.grows⟩ | exact ⟨_, _, _, _, _, _, _, _, _, rfl, .plain ZO ZO ha1 hfr ZO (fun h => show ¬ ((t.getD a2 0 ||| 32).toNat : Int) = 101 by omega), h14_3, hvf, H17.grows⟩
  refine Z0a (Z02 ?_)
  refine Zk [0, 2, 3] ?_
  refine Z03 (Z00 (Zm ?_))
  refine Z0y rfl rfl rfl rfl (Z0l ZO) ?_
  refine Zg (Z01 (Z02 ?_))
  refine Zk [0, 2, 3] ?_
  refine Z03 (Z00 (Zm (Zg (Z01 (Z02 ?_)))))
  refine Zk [0, 2, 3, 5] ?_
  refine Z1q (ι := Nat) (fun (a4 : Nat) (w' : World) => St w w.heap.size Z0J ([As.blk b0_0 311 [.bool (ngb t), .int .i64 0, v14_3, vf, .int .i64 0]]) w' ∧ a4 = sg t (a2 + 1)) (fun (a4 : Nat) => [(3, .int .i64 (a4 : Int))]) [0, 2, 5] (.cons rfl (.cons rfl (.cons rfl .nil))) ?_ ?_
  ·refine Z03 (Z00 (Zm (Zm ?_)))
   refine Z4W rfl rfl underlying25 rfl (by first | exact H13.ibl mem0 | exact H13.iarg hv | assumption) ?_
   refine Zl ?_
   refine Zm ?_
   apply Z47 12 [0, 2, 3, 5] rfl rfl (.cons rfl (.cons rfl (.cons rfl (.cons rfl (.cons rfl .nil))))) rfl rfl (fun _ => rfl) rfl rfl rfl
   ·intro hg25_5
    refine Zm (Zm ?_)
    refine Z4Z (j := a2 + 1) rfl rfl rfl rfl underlying25 tz5 underlying5 rfl rfl (by first | exact H13.ibl mem0 | exact H13.iarg hv | assumption) rfl ZO ZI (fun hb25_7 => ?_)
    refine Ze ?_
    refine Zm ?_
    apply l_or 5 [0, 2, 3, 5, 138] rfl rfl (.cons rfl (.cons rfl (.cons rfl (.cons rfl (.cons rfl (.cons rfl .nil)))))) rfl rfl (fun _ => rfl) rfl rfl rfl
    ·intro hg25_11
     refine Zm (Zm ?_)
     refine Z4Z (j := a2 + 1) rfl rfl rfl rfl underlying25 tz5 underlying5 rfl rfl (by first | exact H13.ibl mem0 | exact H13.iarg hv | assumption) rfl ZO ZI (fun hb25_13 => ?_)
     refine Ze ?_
     refine Z01 ?_
     exact Z0O rfl (.cons rfl (ZF hg25_11) (.cons rfl rfl (.cons rfl rfl (.cons rfl rfl (.cons rfl rfl (.cons rfl rfl .nil))))))
    refine Z01 ?_
    exact Z0O rfl (.cons rfl (ZT hg25_5) (.cons rfl rfl (.cons rfl rfl (.cons rfl rfl (.cons rfl rfl .nil)))))
   refine Z01 (Z02 ?_)
   refine Zk [0, 2, 3, 5, 151] ?_
   (first | refine Z0c rfl ?_ ?_ | refine Z08 rfl ?_ ?_) <;> intro hc6
   ·refine Z00 (Zm ?_)
    refine Z0y rfl rfl rfl rfl (Z0l ZO) ?_
    refine Zg (Z01 ?_)
    refine Z0w (a2 + 1 + 1) ?_ (.cons rfl (.cons rfl (.cons rfl .nil))) ?_
    ·exact ⟨H13, (Z6J ZO (And.right (by first | exact hc6 | exact hc12))).symm⟩
    exact (.cons rfl ZN .nil)
   refine Z0a ?_
   refine Z0w (a2 + 1) ?_ (.cons rfl (.cons rfl (.cons rfl .nil))) ?_
   ·exact ⟨H13, (sg_no (fun h => absurd (show (((a2 : Int) + 1 < (t.length : Int)) ∧ (((t.getD (a2 + 1) 0).toNat : Int) = 43 ∨ ((t.getD (a2 + 1) 0).toNat : Int) = 45)) from ⟨ZO, h.2⟩) (by first | exact hc6 | exact hc12))).symm⟩
   exact (.cons rfl ZN .nil)
  rintro a4 w18 ⟨H18, ha4⟩
  show RunC P _ _ _ (_ :: _) _
  refine Z03 (Z03 (Z00 ?_))
  have hs4 := Z7j t (i := a2 + 1) ZO
  have hr4 := Z4X t a4 ZO
  refine Zm (Zm ?_)
  refine Zp func147 (Z5u v t ZO a4 ZO w18 (H18.iarg hv)) ?_
  refine Ze ?_
  refine Z01 (Z02 ?_)
  refine Zk [0, 2, 3, 5, 157] ?_
  (first | refine Z0c rfl ?_ ?_ | refine Z08 rfl ?_ ?_) <;> intro hc7
  ·refine Z03 (Z00 ?_)
   refine Z1b H18 mem0 rfl rfl underlying311 rfl Z51 rfl (.take (.take (.take (.take (.take .nil))))) ?_
   refine Zm ?_
   refine Z0m H18 .head (.zero (.zero (.zero (.zero (.zero .nil))))) rfl Z51 rfl rfl ZC (fun w19 H19 => ?_)
   refine Zg (Zg (Z01 (Z02 ?_)))
   refine Zk [2, 3, 4] ?_
   refine Z0i ?_
   refine Z07 ?_
   refine Z5d ?_
   refine Z12 results259 (.cell rfl (Z0E H19 mem0 underlying311 rfl Z51 (.take (.take (.take (.take (.take .nil)))))) (.tmp rfl (.tmp rfl .nil))) rfl ?_
   refine ⟨_, rfl, ?_⟩
   have H20 := St.del .head H19
   exact ⟨_, _, _, _, _, _, _, _, _, rfl, .bad ZO ZO ha1 hfr ZO ZO (show ((t.getD a2 0 ||| 32).toNat : Int) = 101 by omega) ha4 ZO, h14_3, hvf, H20.grows⟩
  refine Z0a (Z02 ?_)
  refine Zk [0, 2, 3, 5] ?_
  refine Z03 (Z0d ?_)
  refine Z0z (ι := Nat × Int) (fun (z0 : Nat × Int) => match z0 with | ⟨j, x⟩ => t.length - j) (fun (z0 : Nat × Int) (w' : World) => match z0 with | ⟨j, x⟩ => St w w.heap.size Z0J ([As.blk b0_0 311 [.bool (ngb t), .int .i64 0, v14_3, vf, .int .i64 x]]) w' ∧ a4 + j ≤ t.length ∧ (∀ i, i < j → isD (t.getD (a4 + i) 0)) ∧ x = expo ((t.drop a4).take j) ∧ 0 ≤ x ∧ x ≤ 99999) (fun (z0 : Nat × Int) => match z0 with | ⟨j, x⟩ => [(3, .int .i64 ((a4 + j : Nat) : Int))]) [0, 2, 5] (0, 0) ?_ (.cons rfl (.cons rfl (.cons rfl .nil))) ?_ ?_
  ·exact ⟨H18, ZO, fun i hi => by omega, rfl, ZO, ZO⟩
  ·exact (.cons rfl ZN .nil)
  rintro ⟨j, x⟩ w21 ⟨H21, hj, hdg, hx, hx0, hx9⟩
  show RunC P _ _ _ (_ :: _) _
  refine Z03 (Z03 (Z00 (Zm (Zm ?_))))
  refine Z4W rfl rfl underlying25 rfl (by first | exact H21.ibl mem0 | exact H21.iarg hv | assumption) ?_
  refine Zl ?_
  refine Zm ?_
  apply Z47 5 [0, 2, 3, 5] rfl rfl (.cons rfl (.cons rfl (.cons rfl (.cons rfl (.cons rfl .nil))))) rfl rfl (fun _ => rfl) rfl rfl rfl
  ·intro hg29_5
   refine Zm (Zm ?_)
   refine Z4Z (j := a4 + j) rfl rfl rfl rfl underlying25 tz5 underlying5 rfl rfl (by first | exact H21.ibl mem0 | exact H21.iarg hv | assumption) rfl ZO ZI (fun hb29_7 => ?_)
   refine Z13 rfl rfl func195 rfl rfl (.cons rfl .nil) (Z67 _ _) ?_
   refine Z01 ?_
   exact Z0O rfl (.cons rfl (ZT hg29_5) (.cons rfl rfl (.cons rfl rfl (.cons rfl rfl (.cons rfl rfl .nil)))))
  refine Z01 (Z02 ?_)
  refine Zk [0, 2, 3, 5, 170] ?_
  (first | refine Z0c rfl ?_ ?_ | refine Z08 rfl ?_ ?_) <;> intro hc8
  ·refine Z0a (Z02 ?_)
   refine Zk [0, 2, 3, 5] ?_
   refine Z03 (Z0d ?_)
   refine c_tail 12 ZK ZK ?_
   have H22 := H21.drewn
   have hd48 : isD (t.getD (a4 + j) 0) := (And.right (by first | exact hc8 | exact hc14))
   have hd49 := hd48
   unfold isD at hd49
   refine Z09 Z5x rfl rfl rfl ?_
   refine Z05 H22 mem0 rfl rfl underlying3 rfl rfl rfl ?_
   refine Z20 rfl rfl rfl rfl (Z0l ZO) ?_
   refine Zm (Zm ?_)
   refine Z4Z (j := a4 + j) rfl rfl rfl rfl underlying25 tz5 underlying5 rfl rfl (by first | exact H22.ibl mem0 | exact H22.iarg hv | assumption) rfl ZO ZI (fun hb31_5 => ?_)
   refine Z0W rfl rfl rfl rfl (w_u8 ZO) ?_
   refine Z5a rfl rfl underlying5 underlying3 rfl (Z0l ZO) ?_
   refine Z0y rfl rfl rfl rfl (Z0l ZO) ?_
   refine l_min rfl rfl rfl rfl ?_
   refine Z09 Z5x rfl rfl rfl (Z01 ?_)
   refine e_tail ?_
   refine Z0s H22 .head (by repeat (first | exact .zero | apply Z1F.succ)) rfl tz3 rfl rfl ZR (fun w23 H23 => ?_)
   refine Z01 ?_
   refine Z0F ?_
   refine Z02 ?_
   refine Zk [0, 2, 3, 5] ?_
   refine Z00 (Zm ?_)
   refine Z0y rfl rfl rfl rfl (Z0l ZO) ?_
   refine Zg (Z01 ?_)
   refine Z0p (i := (j, x)) (j + 1, min (10 * x + (((t.getD (a4 + j) 0).toNat : Int) - 48)) 99999) ?_ ?_ (.cons rfl (.cons rfl (.cons rfl .nil))) ?_
   ·first | omega | (simp; omega)
   ·refine ⟨H23, ZO, fun i hi => ?_, ?_, ZO, ZO⟩
    ·rcases Nat.lt_or_ge i j with h | h
     ·exact hdg i h
     obtain rfl : i = j := by omega
     exact hd48
    rw [take_snoc_drop t ZO, Z6I, ← hx]
   exact (.cons rfl ZN .nil)
  refine Z0H ?_
  refine Z06 ?_
  refine Z06 ?_
  refine Z0h ?_
  refine Z02 ?_
  refine Zk [0, 2, 3, 5] ?_
  refine Z03 (Z03 (Z00 ?_))
  have hjr : j = run (t.drop a4) := (run_eqn t a4 j ZO hdg hj (fun h hh => absurd (show (((a4 + j : Nat) : Int) < (t.length : Int)) ∧ isD (t.getD (a4 + j) 0) from ⟨ZO, hh⟩) (by first | exact hc8 | exact hc14))).symm
  refine Zm (Zm ?_)
  refine Z4Z (j := a2 + 1) rfl rfl rfl rfl underlying25 tz5 underlying5 rfl rfl (by first | exact H21.ibl mem0 | exact H21.iarg hv | assumption) rfl ZO ZI (fun hb32_2 => ?_)
  refine Ze ?_
  refine Z01 (Z02 ?_)
  refine Zk [0, 2, 3, 189] ?_
  (first | refine Z0c rfl ?_ ?_ | refine Z08 rfl ?_ ?_) <;> intro hc9
  ·refine Z00 (Z09 Z5x rfl rfl rfl ?_)
   refine Z05 H21 mem0 rfl rfl underlying3 rfl rfl rfl ?_
   refine Z5M rfl rfl rfl (Z0l ZO) ?_
   refine Z09 Z5x rfl rfl rfl ?_
   refine Z0s H21 .head (by repeat (first | exact .zero | apply Z1F.succ)) rfl tz3 rfl rfl ZR (fun w24 H24 => ?_)
   refine Z01 (Z02 ?_)
   refine Zk [0, 2, 3] ?_
   refine Z03 ?_
   refine Z6C ?_
   refine Z02 (Z03 (Z00 ?_))
   refine Z1b H24 mem0 rfl rfl underlying311 rfl Z51 rfl (.take (.take (.take (.take (.take .nil))))) ?_
   refine Zm (Zm (Zm ?_))
   refine Z4W rfl rfl underlying25 rfl (by first | exact H24.ibl mem0 | exact H24.iarg hv | assumption) ?_
   refine Ze ?_
   refine Z0m H24 .head (.zero (.zero (.zero (.zero (.zero .nil))))) rfl Z51 rfl rfl ZC (fun w25 H25 => ?_)
   refine Zg (Zg (Z01 (Z02 ?_)))
   refine Zk [2, 3, 4] ?_
   refine Z0i ?_
   refine Z5d ?_
   refine Z12 results259 (.cell rfl (Z0E H25 mem0 underlying311 rfl Z51 (.take (.take (.take (.take (.take .nil)))))) (.tmp rfl (.tmp rfl .nil))) rfl ?_
   refine ⟨_, rfl, ?_⟩
   have H26 := St.del .head H25
   first | exact ⟨_, _, _, _, _, _, _, _, _, rfl, .exp ZO ZO ha1 hfr ZO ZO (show ((t.getD a2 0 ||| 32).toNat : Int) = 101 by omega) ha4 hjr ZO (by first | rw [if_pos ZA, ← hx] | rw [if_neg ZA, ← hx]), h14_3, hvf, H26.grows⟩ | exact ⟨_, _, _, _, _, _, _, _, _, rfl, .plain ZO ZO ha1 hfr ZO (fun h => show ¬ ((t.getD a2 0 ||| 32).toNat : Int) = 101 by omega), h14_3, hvf, H26.grows⟩
  refine Z0a (Z02 ?_)
  refine Zk [0, 2, 3] ?_
  refine Z03 ?_
  refine Z6C ?_
  refine Z02 (Z03 (Z00 ?_))
  refine Z1b H21 mem0 rfl rfl underlying311 rfl Z51 rfl (.take (.take (.take (.take (.take .nil))))) ?_
  refine Zm (Zm (Zm ?_))
  refine Z4W rfl rfl underlying25 rfl (by first | exact H21.ibl mem0 | exact H21.iarg hv | assumption) ?_
  refine Ze ?_
  refine Z0m H21 .head (.zero (.zero (.zero (.zero (.zero .nil))))) rfl Z51 rfl rfl ZC (fun w27 H27 => ?_)
  refine Zg (Zg (Z01 (Z02 ?_)))
  refine Zk [2, 3, 4] ?_
  refine Z0i ?_
  refine Z5d ?_
  refine Z12 results259 (.cell rfl (Z0E H27 mem0 underlying311 rfl Z51 (.take (.take (.take (.take (.take .nil)))))) (.tmp rfl (.tmp rfl .nil))) rfl ?_
  refine ⟨_, rfl, ?_⟩
  have H28 := St.del .head H27
  first | exact ⟨_, _, _, _, _, _, _, _, _, rfl, .exp ZO ZO ha1 hfr ZO ZO (show ((t.getD a2 0 ||| 32).toNat : Int) = 101 by omega) ha4 hjr ZO (by first | rw [if_pos ZA, ← hx] | rw [if_neg ZA, ← hx]), h14_3, hvf, H28.grows⟩ | exact ⟨_, _, _, _, _, _, _, _, _, rfl, .plain ZO ZO ha1 hfr ZO (fun h => show ¬ ((t.getD a2 0 ||| 32).toNat : Int) = 101 by omega), h14_3, hvf, H28.grows⟩
 refine Z0a (Z02 ?_)
 refine Zk [0, 2, 3] ?_
 refine Z03 (Z00 (Zm ?_))
 refine Z0y rfl rfl rfl rfl (Z0l ZO) ?_
 refine Zg (Z01 (Z02 ?_))
 refine Zk [0, 2, 3] ?_
 refine Z03 (Z00 ?_)
 refine Z0j (s := 3) (v' := .int .i64 ((a1 + 1 : Nat) : Int)) rfl (by simp only [Int.natCast_add]; rfl) ?_
 have hr1 := Z4X t (a1 + 1) ZO
 refine Zm (Zg (Z01 (Z02 ?_)))
 refine Zk [0, 2, 3, 5] ?_
 refine Z03 (Z00 (Zm (Zm (Zm ?_))))
 refine Zp func147 (Z5u v t ZO (a1 + 1) ZO w12 (H12.iarg hv)) ?_
 refine Z0y rfl rfl rfl rfl (Z0l ZO) ?_
 refine Zg (Z01 (Z02 ?_))
 refine Zk [0, 2, 3, 5] ?_
 refine Z03 (Z00 (Zm (Zm (Zm ?_))))
 refine Z5B (l := a1 + 1) (h := a1 + 1 + run (t.drop (a1 + 1))) rfl rfl underlying25 tz5 rfl rfl rfl rfl hvr ZD ZD (.inl rfl) (by simp) ZO ZI (fun v19_3 h19_3 ho19_3 => ?_)
 rw [Z59] at h19_3
 have hone2 := Z52 h19_3
 refine Z09 Z6j rfl rfl rfl ?_
 refine Z0s H12 .head (by repeat (first | exact .zero | apply Z1F.succ)) rfl tz25 rfl rfl ZR (fun w29 H29 => ?_)
 refine Z01 (Z02 ?_)
 refine Zk [0, 2, 3] ?_
 refine Z03 ?_
 refine Z6C ?_
 refine Z02 (Z03 (Z03 (Z00 ?_)))
 obtain ⟨vf, hvfe⟩ : ∃ vf : Value, vf = v19_3 := ⟨_, rfl⟩
 obtain ⟨F, hFe⟩ : ∃ F : L8, F = (t.take (a1 + 1 + run (t.drop (a1 + 1)))).drop (a1 + 1) := ⟨_, rfl⟩
 obtain ⟨a2, ha2⟩ : ∃ a2 : Nat, a2 = a1 + 1 + run (t.drop (a1 + 1)) := ⟨_, rfl⟩
 have hvf : IV wr vf (bys F) := by
  rw [hvfe, hFe]
  first | exact IV.nil wr | assumption
 have hfr : Fr t a1 F a2 := by
  rw [hFe, ha2]
  exact .yes ZO ZO
 have ha2l : a2 ≤ t.length := by omega
 have honef := Z52 hvf
 have hFl : F.length ≤ t.length := by
  rw [hFe]
  first | (rw [Z64 t ZO]; omega) | simp
 have hWl := Z64 t (l := sg t 0) (h := a1) ZO
 refine Z0j (s := 3) (v' := .int .i64 (a2 : Int)) rfl (by first | (rw [ha2]; done) | (rw [ha2]; simp only [Int.natCast_add]; done)) ?_
 have H30 := H29.cast (show _ = [As.blk b0_0 311 [.bool (ngb t), .int .i64 0, v14_3, vf, .int .i64 0]] from by rw [hvfe])
 refine Z09 Z74 rfl rfl rfl ?_
 refine Z05 H30 mem0 rfl rfl underlying25 rfl rfl rfl ?_
 refine Z4W rfl rfl underlying25 rfl (by first | exact H30.ibl mem0 | exact H30.iarg hv | assumption) ?_
 refine Z09 Z6j rfl rfl rfl ?_
 refine Z05 H30 mem0 rfl rfl underlying25 rfl rfl rfl ?_
 refine Z4W rfl rfl underlying25 rfl (by first | exact H30.ibl mem0 | exact H30.iarg hv | assumption) ?_
 refine Z0y rfl rfl rfl rfl (Z0l ZO) ?_
 refine Ze ?_
 refine Z01 (Z02 ?_)
 refine Zk [0, 2, 3, 116] ?_
 (first | refine Z0c rfl ?_ ?_ | refine Z08 rfl ?_ ?_) <;> intro hc10
 ·refine Z03 (Z00 ?_)
  refine Z1b H30 mem0 rfl rfl underlying311 rfl Z51 rfl (.take (.take (.take (.take (.take .nil))))) ?_
  refine Zm ?_
  refine Z0m H30 .head (.zero (.zero (.zero (.zero (.zero .nil))))) rfl Z51 rfl rfl ZC (fun w31 H31 => ?_)
  refine Zg (Zg (Z01 (Z02 ?_)))
  refine Zk [2, 3, 4] ?_
  refine Z0i ?_
  refine Z07 ?_
  refine Z5d ?_
  refine Z12 results259 (.cell rfl (Z0E H31 mem0 underlying311 rfl Z51 (.take (.take (.take (.take (.take .nil)))))) (.tmp rfl (.tmp rfl .nil))) rfl ?_
  refine ⟨_, rfl, ?_⟩
  have H32 := St.del .head H31
  exact ⟨_, _, _, _, _, _, _, _, _, rfl, .none ZO ZO ha1 hfr ZO, h14_3, hvf, H32.grows⟩
 refine Z0a (Z02 ?_)
 refine Zk [0, 2, 3] ?_
 refine Z03 (Z03 (Z00 (Zm (Zm ?_))))
 refine Z4W rfl rfl underlying25 rfl (by first | exact H30.ibl mem0 | exact H30.iarg hv | assumption) ?_
 refine Ze ?_
 refine Zm ?_
 apply l_or 6 [0, 2, 3] rfl rfl (.cons rfl (.cons rfl (.cons rfl (.cons rfl .nil)))) rfl rfl (fun _ => rfl) rfl rfl rfl
 ·intro hg22_5
  refine Zm (Zm ?_)
  refine Z4Z (j := a2) rfl rfl rfl rfl underlying25 tz5 underlying5 rfl rfl (by first | exact H30.ibl mem0 | exact H30.iarg hv | assumption) rfl ZO ZI (fun hb22_7 => ?_)
  refine Z1i rfl rfl rfl rfl rfl (or32 _) ?_
  refine Zo ?_
  refine Z01 ?_
  exact Z0O rfl (.cons rfl (ZF hg22_5) (.cons rfl rfl (.cons rfl rfl (.cons rfl rfl .nil))))
 refine Z01 (Z02 ?_)
 refine Zk [0, 2, 3, 130] ?_
 (first | refine Z0c rfl ?_ ?_ | refine Z08 rfl ?_ ?_) <;> intro hc11
 ·refine c_goto ?_
  refine Z61 ?_
  refine Z6A (show _ = some _ from rfl) ?_
  refine Zk [0, 2, 3] ?_
  refine Z03 (Z0a (Z02 (Z03 (Z00 ?_))))
  refine Z1b H30 mem0 rfl rfl underlying311 rfl Z51 rfl (.take (.take (.take (.take (.take .nil))))) ?_
  refine Zm (Zm (Zm ?_))
  refine Z4W rfl rfl underlying25 rfl (by first | exact H30.ibl mem0 | exact H30.iarg hv | assumption) ?_
  refine Ze ?_
  refine Z0m H30 .head (.zero (.zero (.zero (.zero (.zero .nil))))) rfl Z51 rfl rfl ZC (fun w33 H33 => ?_)
  refine Zg (Zg (Z01 (Z02 ?_)))
  refine Zk [2, 3, 4] ?_
  refine Z0i ?_
  refine Z5d ?_
  refine Z12 results259 (.cell rfl (Z0E H33 mem0 underlying311 rfl Z51 (.take (.take (.take (.take (.take .nil)))))) (.tmp rfl (.tmp rfl .nil))) rfl ?_
  refine ⟨_, rfl, ?_⟩
  have H34 := St.del .head H33
  first | exact ⟨_, _, _, _, _, _, _, _, _, rfl, .exp ZO ZO ha1 hfr ZO ZO (show ((t.getD a2 0 ||| 32).toNat : Int) = 101 by omega) ha4 hjr ZO (by first | rw [if_pos ZA, ← hx] | rw [if_neg ZA, ← hx]), h14_3, hvf, H34.grows⟩ | exact ⟨_, _, _, _, _, _, _, _, _, rfl, .plain ZO ZO ha1 hfr ZO (fun h => show ¬ ((t.getD a2 0 ||| 32).toNat : Int) = 101 by omega), h14_3, hvf, H34.grows⟩
 refine Z0a (Z02 ?_)
 refine Zk [0, 2, 3] ?_
 refine Z03 (Z00 (Zm ?_))
 refine Z0y rfl rfl rfl rfl (Z0l ZO) ?_
 refine Zg (Z01 (Z02 ?_))
 refine Zk [0, 2, 3] ?_
 refine Z03 (Z00 (Zm (Zg (Z01 (Z02 ?_)))))
 refine Zk [0, 2, 3, 5] ?_
 refine Z1q (ι := Nat) (fun (a4 : Nat) (w' : World) => St w w.heap.size Z0J ([As.blk b0_0 311 [.bool (ngb t), .int .i64 0, v14_3, vf, .int .i64 0]]) w' ∧ a4 = sg t (a2 + 1)) (fun (a4 : Nat) => [(3, .int .i64 (a4 : Int))]) [0, 2, 5] (.cons rfl (.cons rfl (.cons rfl .nil))) ?_ ?_
 ·refine Z03 (Z00 (Zm (Zm ?_)))
  refine Z4W rfl rfl underlying25 rfl (by first | exact H30.ibl mem0 | exact H30.iarg hv | assumption) ?_
  refine Zl ?_
  refine Zm ?_
  apply Z47 12 [0, 2, 3, 5] rfl rfl (.cons rfl (.cons rfl (.cons rfl (.cons rfl (.cons rfl .nil))))) rfl rfl (fun _ => rfl) rfl rfl rfl
  ·intro hg25_5
   refine Zm (Zm ?_)
   refine Z4Z (j := a2 + 1) rfl rfl rfl rfl underlying25 tz5 underlying5 rfl rfl (by first | exact H30.ibl mem0 | exact H30.iarg hv | assumption) rfl ZO ZI (fun hb25_7 => ?_)
   refine Ze ?_
   refine Zm ?_
   apply l_or 5 [0, 2, 3, 5, 138] rfl rfl (.cons rfl (.cons rfl (.cons rfl (.cons rfl (.cons rfl (.cons rfl .nil)))))) rfl rfl (fun _ => rfl) rfl rfl rfl
   ·intro hg25_11
    refine Zm (Zm ?_)
    refine Z4Z (j := a2 + 1) rfl rfl rfl rfl underlying25 tz5 underlying5 rfl rfl (by first | exact H30.ibl mem0 | exact H30.iarg hv | assumption) rfl ZO ZI (fun hb25_13 => ?_)
    refine Ze ?_
    refine Z01 ?_
    exact Z0O rfl (.cons rfl (ZF hg25_11) (.cons rfl rfl (.cons rfl rfl (.cons rfl rfl (.cons rfl rfl (.cons rfl rfl .nil))))))
   refine Z01 ?_
   exact Z0O rfl (.cons rfl (ZT hg25_5) (.cons rfl rfl (.cons rfl rfl (.cons rfl rfl (.cons rfl rfl .nil)))))
  refine Z01 (Z02 ?_)
  refine Zk [0, 2, 3, 5, 151] ?_
  (first | refine Z0c rfl ?_ ?_ | refine Z08 rfl ?_ ?_) <;> intro hc12
  ·refine Z00 (Zm ?_)
   refine Z0y rfl rfl rfl rfl (Z0l ZO) ?_
   refine Zg (Z01 ?_)
   refine Z0w (a2 + 1 + 1) ?_ (.cons rfl (.cons rfl (.cons rfl .nil))) ?_
   ·exact ⟨H30, (Z6J ZO (And.right (by first | exact hc6 | exact hc12))).symm⟩
   exact (.cons rfl ZN .nil)
  refine Z0a ?_
  refine Z0w (a2 + 1) ?_ (.cons rfl (.cons rfl (.cons rfl .nil))) ?_
  ·exact ⟨H30, (sg_no (fun h => absurd (show (((a2 : Int) + 1 < (t.length : Int)) ∧ (((t.getD (a2 + 1) 0).toNat : Int) = 43 ∨ ((t.getD (a2 + 1) 0).toNat : Int) = 45)) from ⟨ZO, h.2⟩) (by first | exact hc6 | exact hc12))).symm⟩
  exact (.cons rfl ZN .nil)
 rintro a4 w35 ⟨H35, ha4⟩
 show RunC P _ _ _ (_ :: _) _
 refine Z03 (Z03 (Z00 ?_))
 have hs4 := Z7j t (i := a2 + 1) ZO
 have hr4 := Z4X t a4 ZO
 refine Zm (Zm ?_)
 refine Zp func147 (Z5u v t ZO a4 ZO w35 (H35.iarg hv)) ?_
 refine Ze ?_
 refine Z01 (Z02 ?_)
 refine Zk [0, 2, 3, 5, 157] ?_
 (first | refine Z0c rfl ?_ ?_ | refine Z08 rfl ?_ ?_) <;> intro hc13
 ·refine Z03 (Z00 ?_)
  refine Z1b H35 mem0 rfl rfl underlying311 rfl Z51 rfl (.take (.take (.take (.take (.take .nil))))) ?_
  refine Zm ?_
  refine Z0m H35 .head (.zero (.zero (.zero (.zero (.zero .nil))))) rfl Z51 rfl rfl ZC (fun w36 H36 => ?_)
  refine Zg (Zg (Z01 (Z02 ?_)))
  refine Zk [2, 3, 4] ?_
  refine Z0i ?_
  refine Z07 ?_
  refine Z5d ?_
  refine Z12 results259 (.cell rfl (Z0E H36 mem0 underlying311 rfl Z51 (.take (.take (.take (.take (.take .nil)))))) (.tmp rfl (.tmp rfl .nil))) rfl ?_
  refine ⟨_, rfl, ?_⟩
  have H37 := St.del .head H36
  exact ⟨_, _, _, _, _, _, _, _, _, rfl, .bad ZO ZO ha1 hfr ZO ZO (show ((t.getD a2 0 ||| 32).toNat : Int) = 101 by omega) ha4 ZO, h14_3, hvf, H37.grows⟩
 refine Z0a (Z02 ?_)
 refine Zk [0, 2, 3, 5] ?_
 refine Z03 (Z0d ?_)
 refine Z0z (ι := Nat × Int) (fun (z0 : Nat × Int) => match z0 with | ⟨j, x⟩ => t.length - j) (fun (z0 : Nat × Int) (w' : World) => match z0 with | ⟨j, x⟩ => St w w.heap.size Z0J ([As.blk b0_0 311 [.bool (ngb t), .int .i64 0, v14_3, vf, .int .i64 x]]) w' ∧ a4 + j ≤ t.length ∧ (∀ i, i < j → isD (t.getD (a4 + i) 0)) ∧ x = expo ((t.drop a4).take j) ∧ 0 ≤ x ∧ x ≤ 99999) (fun (z0 : Nat × Int) => match z0 with | ⟨j, x⟩ => [(3, .int .i64 ((a4 + j : Nat) : Int))]) [0, 2, 5] (0, 0) ?_ (.cons rfl (.cons rfl (.cons rfl .nil))) ?_ ?_
 ·exact ⟨H35, ZO, fun i hi => by omega, rfl, ZO, ZO⟩
 ·exact (.cons rfl ZN .nil)
 rintro ⟨j, x⟩ w38 ⟨H38, hj, hdg, hx, hx0, hx9⟩
 show RunC P _ _ _ (_ :: _) _
 refine Z03 (Z03 (Z00 (Zm (Zm ?_))))
 refine Z4W rfl rfl underlying25 rfl (by first | exact H38.ibl mem0 | exact H38.iarg hv | assumption) ?_
 refine Zl ?_
 refine Zm ?_
 apply Z47 5 [0, 2, 3, 5] rfl rfl (.cons rfl (.cons rfl (.cons rfl (.cons rfl (.cons rfl .nil))))) rfl rfl (fun _ => rfl) rfl rfl rfl
 ·intro hg29_5
  refine Zm (Zm ?_)
  refine Z4Z (j := a4 + j) rfl rfl rfl rfl underlying25 tz5 underlying5 rfl rfl (by first | exact H38.ibl mem0 | exact H38.iarg hv | assumption) rfl ZO ZI (fun hb29_7 => ?_)
  refine Z13 rfl rfl func195 rfl rfl (.cons rfl .nil) (Z67 _ _) ?_
  refine Z01 ?_
  exact Z0O rfl (.cons rfl (ZT hg29_5) (.cons rfl rfl (.cons rfl rfl (.cons rfl rfl (.cons rfl rfl .nil)))))
 refine Z01 (Z02 ?_)
 refine Zk [0, 2, 3, 5, 170] ?_
 (first | refine Z0c rfl ?_ ?_ | refine Z08 rfl ?_ ?_) <;> intro hc14
 ·refine Z0a (Z02 ?_)
  refine Zk [0, 2, 3, 5] ?_
  refine Z03 (Z0d ?_)
  refine c_tail 12 ZK ZK ?_
  have H39 := H38.drewn
  have hd48 : isD (t.getD (a4 + j) 0) := (And.right (by first | exact hc8 | exact hc14))
  have hd49 := hd48
  unfold isD at hd49
  refine Z09 Z5x rfl rfl rfl ?_
  refine Z05 H39 mem0 rfl rfl underlying3 rfl rfl rfl ?_
  refine Z20 rfl rfl rfl rfl (Z0l ZO) ?_
  refine Zm (Zm ?_)
  refine Z4Z (j := a4 + j) rfl rfl rfl rfl underlying25 tz5 underlying5 rfl rfl (by first | exact H39.ibl mem0 | exact H39.iarg hv | assumption) rfl ZO ZI (fun hb31_5 => ?_)
  refine Z0W rfl rfl rfl rfl (w_u8 ZO) ?_
  refine Z5a rfl rfl underlying5 underlying3 rfl (Z0l ZO) ?_
  refine Z0y rfl rfl rfl rfl (Z0l ZO) ?_
  refine l_min rfl rfl rfl rfl ?_
  refine Z09 Z5x rfl rfl rfl (Z01 ?_)
  refine e_tail ?_
  refine Z0s H39 .head (by repeat (first | exact .zero | apply Z1F.succ)) rfl tz3 rfl rfl ZR (fun w40 H40 => ?_)
  refine Z01 ?_
  refine Z0F ?_
  refine Z02 ?_
  refine Zk [0, 2, 3, 5] ?_
  refine Z00 (Zm ?_)
  refine Z0y rfl rfl rfl rfl (Z0l ZO) ?_
  refine Zg (Z01 ?_)
  refine Z0p (i := (j, x)) (j + 1, min (10 * x + (((t.getD (a4 + j) 0).toNat : Int) - 48)) 99999) ?_ ?_ (.cons rfl (.cons rfl (.cons rfl .nil))) ?_
  ·first | omega | (simp; omega)
  ·refine ⟨H40, ZO, fun i hi => ?_, ?_, ZO, ZO⟩
   ·rcases Nat.lt_or_ge i j with h | h
    ·exact hdg i h
    obtain rfl : i = j := by omega
    exact hd48
   rw [take_snoc_drop t ZO, Z6I, ← hx]
  exact (.cons rfl ZN .nil)
 refine Z0H ?_
 refine Z06 ?_
 refine Z06 ?_
 refine Z0h ?_
 refine Z02 ?_
 refine Zk [0, 2, 3, 5] ?_
 refine Z03 (Z03 (Z00 ?_))
 have hjr : j = run (t.drop a4) := (run_eqn t a4 j ZO hdg hj (fun h hh => absurd (show (((a4 + j : Nat) : Int) < (t.length : Int)) ∧ isD (t.getD (a4 + j) 0) from ⟨ZO, hh⟩) (by first | exact hc8 | exact hc14))).symm
 refine Zm (Zm ?_)
 refine Z4Z (j := a2 + 1) rfl rfl rfl rfl underlying25 tz5 underlying5 rfl rfl (by first | exact H38.ibl mem0 | exact H38.iarg hv | assumption) rfl ZO ZI (fun hb32_2 => ?_)
 refine Ze ?_
 refine Z01 (Z02 ?_)
 refine Zk [0, 2, 3, 189] ?_
 (first | refine Z0c rfl ?_ ?_ | refine Z08 rfl ?_ ?_) <;> intro hc15
 ·refine Z00 (Z09 Z5x rfl rfl rfl ?_)
  refine Z05 H38 mem0 rfl rfl underlying3 rfl rfl rfl ?_
  refine Z5M rfl rfl rfl (Z0l ZO) ?_
  refine Z09 Z5x rfl rfl rfl ?_
  refine Z0s H38 .head (by repeat (first | exact .zero | apply Z1F.succ)) rfl tz3 rfl rfl ZR (fun w41 H41 => ?_)
  refine Z01 (Z02 ?_)
  refine Zk [0, 2, 3] ?_
  refine Z03 ?_
  refine Z6C ?_
  refine Z02 (Z03 (Z00 ?_))
  refine Z1b H41 mem0 rfl rfl underlying311 rfl Z51 rfl (.take (.take (.take (.take (.take .nil))))) ?_
  refine Zm (Zm (Zm ?_))
  refine Z4W rfl rfl underlying25 rfl (by first | exact H41.ibl mem0 | exact H41.iarg hv | assumption) ?_
  refine Ze ?_
  refine Z0m H41 .head (.zero (.zero (.zero (.zero (.zero .nil))))) rfl Z51 rfl rfl ZC (fun w42 H42 => ?_)
  refine Zg (Zg (Z01 (Z02 ?_)))
  refine Zk [2, 3, 4] ?_
  refine Z0i ?_
  refine Z5d ?_
  refine Z12 results259 (.cell rfl (Z0E H42 mem0 underlying311 rfl Z51 (.take (.take (.take (.take (.take .nil)))))) (.tmp rfl (.tmp rfl .nil))) rfl ?_
  refine ⟨_, rfl, ?_⟩
  have H43 := St.del .head H42
  first | exact ⟨_, _, _, _, _, _, _, _, _, rfl, .exp ZO ZO ha1 hfr ZO ZO (show ((t.getD a2 0 ||| 32).toNat : Int) = 101 by omega) ha4 hjr ZO (by first | rw [if_pos ZA, ← hx] | rw [if_neg ZA, ← hx]), h14_3, hvf, H43.grows⟩ | exact ⟨_, _, _, _, _, _, _, _, _, rfl, .plain ZO ZO ha1 hfr ZO (fun h => show ¬ ((t.getD a2 0 ||| 32).toNat : Int) = 101 by omega), h14_3, hvf, H43.grows⟩
 refine Z0a (Z02 ?_)
 refine Zk [0, 2, 3] ?_
 refine Z03 ?_
 refine Z6C ?_
 refine Z02 (Z03 (Z00 ?_))
 refine Z1b H38 mem0 rfl rfl underlying311 rfl Z51 rfl (.take (.take (.take (.take (.take .nil))))) ?_
 refine Zm (Zm (Zm ?_))
 refine Z4W rfl rfl underlying25 rfl (by first | exact H38.ibl mem0 | exact H38.iarg hv | assumption) ?_
 refine Ze ?_
 refine Z0m H38 .head (.zero (.zero (.zero (.zero (.zero .nil))))) rfl Z51 rfl rfl ZC (fun w44 H44 => ?_)
 refine Zg (Zg (Z01 (Z02 ?_)))
 refine Zk [2, 3, 4] ?_
 refine Z0i ?_
 refine Z5d ?_
 refine Z12 results259 (.cell rfl (Z0E H44 mem0 underlying311 rfl Z51 (.take (.take (.take (.take (.take .nil)))))) (.tmp rfl (.tmp rfl .nil))) rfl ?_
 refine ⟨_, rfl, ?_⟩
 have H45 := St.del .head H44
 first | exact ⟨_, _, _, _, _, _, _, _, _, rfl, .exp ZO ZO ha1 hfr ZO ZO (show ((t.getD a2 0 ||| 32).toNat : Int) = 101 by omega) ha4 hjr ZO (by first | rw [if_pos ZA, ← hx] | rw [if_neg ZA, ← hx]), h14_3, hvf, H45.grows⟩ | exact ⟨_, _, _, _, _, _, _, _, _, rfl, .plain ZO ZO ha1 hfr ZO (fun h => show ¬ ((t.getD a2 0 ||| 32).toNat : Int) = 101 by omega), h14_3, hvf, H45.grows⟩
theorem Z5b (n a b c d : Nat) (ha : a < 2 ^ n) (hc : c < 2 ^ n) : (a + 2 ^ n * b) &&& (c + 2 ^ n * d) = (a &&& c) + 2 ^ n * (b &&& d) := by
 have hp : 0 < 2 ^ n := Nat.pow_pos ZO
 have h1 : ((a + 2 ^ n * b) &&& (c + 2 ^ n * d)) % 2 ^ n = a &&& c := by
  rw [Nat.and_mod_two_pow, Nat.add_mul_mod_self_left, Nat.add_mul_mod_self_left, Nat.mod_eq_of_lt ha, Nat.mod_eq_of_lt hc]
 have h2 : ((a + 2 ^ n * b) &&& (c + 2 ^ n * d)) / 2 ^ n = b &&& d := by
  rw [Nat.and_div_two_pow, Nat.add_mul_div_left _ _ hp, Nat.add_mul_div_left _ _ hp, Nat.div_eq_of_lt ha, Nat.div_eq_of_lt hc, Nat.zero_add, Nat.zero_add]
 rw [← h1, ← h2]
 exact (Nat.mod_add_div _ _).symm
theorem and_nat {m q : Int} (hm : 0 ≤ m ∧ m ≤ 18446744073709551615) (hq : 0 ≤ q ∧ q ≤ 18446744073709551615) : bitw .and .u64 m q = ((m.toNat &&& q.toNat : Nat) : Int) := by
 have e : (BitVec.ofInt IntKind.u64.bits m &&& BitVec.ofInt IntKind.u64.bits q).toNat = m.toNat &&& q.toNat := by
  show (BitVec.ofInt 64 m &&& BitVec.ofInt 64 q).toNat = _
  rw [BitVec.toNat_and, Z1D hm, Z1D hq]
 have hle : m.toNat &&& q.toNat ≤ m.toNat := Nat.and_le_left
 show IntKind.u64.wrap _ = _
 rw [e, Z1p ZO]
theorem or_addS {a b : Int} {n : Nat} (ha : 0 ≤ a ∧ a < 2 ^ n) (hb : 0 ≤ b) (h : a + b * 2 ^ n ≤ 18446744073709551615) : bitw .or .u64 a (b * 2 ^ n) = a + b * 2 ^ n := by
 have hp := Ma.pow_pos (show (0 : Int) < 2 by omega) n
 have hm0 := Int.mul_nonneg hb (Int.le_of_lt hp)
 obtain ⟨A, rfl⟩ := Int.eq_ofNat_of_zero_le ha.1
 obtain ⟨C, rfl⟩ := Int.eq_ofNat_of_zero_le hb
 have hA : A < 2 ^ n := by exact_mod_cast ha.2
 have e : (BitVec.ofInt IntKind.u64.bits (A : Int) ||| BitVec.ofInt IntKind.u64.bits ((C : Int) * 2 ^ n)).toNat = A + C * 2 ^ n := by
  show (BitVec.ofInt 64 (A : Int) ||| BitVec.ofInt 64 ((C : Int) * 2 ^ n)).toNat = _
  rw [BitVec.toNat_or, Z1D ZO, Z1D ZO]
  have e2 : ((C : Int) * 2 ^ n).toNat = 2 ^ n * C := by
   have : ((C : Int) * 2 ^ n) = ((2 ^ n * C : Nat) : Int) := by rw [Int.natCast_mul, Int.mul_comm]; simp
   rw [this, Int.toNat_natCast]
  rw [e2, Int.toNat_natCast, Nat.or_comm, ← Nat.two_pow_add_eq_or_of_lt hA, Nat.mul_comm]
  omega
 have e3 : ((A + C * 2 ^ n : Nat) : Int) = (A : Int) + (C : Int) * 2 ^ n := by simp
 show IntKind.u64.wrap _ = _
 rw [e, e3, Z1p ZO]
theorem and255 {a : Nat} (h : a < 2 ^ 8) : a &&& 255 = a := by rw [show (255 : Nat) = 2 ^ 8 - 1 from rfl, Nat.and_two_pow_sub_one_eq_mod, Nat.mod_eq_of_lt h]
theorem and65535 {a : Nat} (h : a < 2 ^ 16) : a &&& 65535 = a := by rw [show (65535 : Nat) = 2 ^ 16 - 1 from rfl, Nat.and_two_pow_sub_one_eq_mod, Nat.mod_eq_of_lt h]
theorem mask8 {m : Int} {b0 b1 b2 b3 b4 b5 b6 b7 : Nat} (h0 : b0 < 2 ^ 8) (h1 : b1 < 2 ^ 8) (h2 : b2 < 2 ^ 8) (h3 : b3 < 2 ^ 8) (h4 : b4 < 2 ^ 8) (h5 : b5 < 2 ^ 8) (h6 : b6 < 2 ^ 8) (h7 : b7 < 2 ^ 8)
  (hm : m = ((b0 + 2 ^ 8 * (b1 + 2 ^ 8 * (b2 + 2 ^ 8 * (b3 + 2 ^ 8 * (b4 + 2 ^ 8 * (b5 + 2 ^ 8 * (b6 + 2 ^ 8 * b7)))))) : Nat) : Int)) : bitw .and .u64 m 71777214294589695 = (b0 : Int) + 65536 * b2 + 4294967296 * b4 + 281474976710656 * b6 := by
 rw [and_nat ZO ZO, hm, Int.toNat_natCast, show (71777214294589695 : Int).toNat = 255 + 2 ^ 8 * (0 + 2 ^ 8 * (255 + 2 ^ 8 * (0 + 2 ^ 8 * (255 + 2 ^ 8 * (0 + 2 ^ 8 * (255 + 2 ^ 8 * 0)))))) from rfl]
 rw [Z5b 8 _ _ _ _ h0 (by decide), Z5b 8 _ _ _ _ h1 (by decide), Z5b 8 _ _ _ _ h2 (by decide), Z5b 8 _ _ _ _ h3 (by decide), Z5b 8 _ _ _ _ h4 (by decide), Z5b 8 _ _ _ _ h5 (by decide), Z5b 8 _ _ _ _ h6 (by decide),
  and255 h0, and255 h2, and255 h4, and255 h6, Nat.and_zero, Nat.and_zero, Nat.and_zero, Nat.and_zero]
 omega
theorem mask16 {m : Int} {b0 b1 b2 b3 : Nat} (h0 : b0 < 2 ^ 16) (h1 : b1 < 2 ^ 16) (h2 : b2 < 2 ^ 16) (h3 : b3 < 2 ^ 16) (hm : m = ((b0 + 2 ^ 16 * (b1 + 2 ^ 16 * (b2 + 2 ^ 16 * b3)) : Nat) : Int)) :
  bitw .and .u64 m 281470681808895 = (b0 : Int) + 4294967296 * b2 := by
 rw [and_nat ZO ZO, hm, Int.toNat_natCast, show (281470681808895 : Int).toNat = 65535 + 2 ^ 16 * (0 + 2 ^ 16 * (65535 + 2 ^ 16 * 0)) from rfl]
 rw [Z5b 16 _ _ _ _ h0 (by decide), Z5b 16 _ _ _ _ h1 (by decide), Z5b 16 _ _ _ _ h2 (by decide), and65535 h0, and65535 h2, Nat.and_zero, Nat.and_zero]
 omega
def pk (l : L8) : Nat → Int
 | 0 => 0
 | k + 1 => pk l k + (((l.getD k 0).toNat : Int) - 48) * 256 ^ k
theorem pk_bd {l : L8} (h : ∀ j, j < l.length → isD (l.getD j 0)) : ∀ k, k ≤ l.length → 0 ≤ pk l k ∧ pk l k < 256 ^ k
 | 0, _ => by simp [pk]
 | k + 1, hk => by
  have ih := pk_bd h k ZO
  have hd := h k ZO
  unfold isD at hd
  have hp := Ma.pow_pos (show (0 : Int) < 256 by omega) k
  have h1 := Int.mul_nonneg (show 0 ≤ ((l.getD k 0).toNat : Int) - 48 by omega) (Int.le_of_lt hp)
  have h2 : (((l.getD k 0).toNat : Int) - 48) * 256 ^ k ≤ 9 * 256 ^ k := Int.mul_le_mul_of_nonneg_right ZO (Int.le_of_lt hp)
  simp only [pk, Int.pow_succ]
  omega
theorem eight_val : ∀ (m : L8), m.length = 8 → (∀ j, j < m.length → isD (m.getD j 0)) → ∃ d0 d1 d2 d3 d4 d5 d6 d7 : Nat, (d0 ≤ 9 ∧ d1 ≤ 9 ∧ d2 ≤ 9 ∧ d3 ≤ 9 ∧ d4 ≤ 9 ∧ d5 ≤ 9 ∧ d6 ≤ 9 ∧ d7 ≤ 9) ∧
  pk m 8 = (d0 : Int) + 256 * (d1 + 256 * (d2 + 256 * (d3 + 256 * (d4 + 256 * (d5 + 256 * (d6 + 256 * (d7 : Int))))))) ∧ pv m = 10000000 * (d0 : Int) + 1000000 * d1 + 100000 * d2 + 10000 * d3 + 1000 * d4 + 100 * d5 + 10 * d6 + d7
 | [c0, c1, c2, c3, c4, c5, c6, c7], _, h => by
  have h0 := h 0 (by simp)
  have h1 := h 1 (by simp)
  have h2 := h 2 (by simp)
  have h3 := h 3 (by simp)
  have h4 := h 4 (by simp)
  have h5 := h 5 (by simp)
  have h6 := h 6 (by simp)
  have h7 := h 7 (by simp)
  simp only [isD, List.getD_cons_zero, List.getD_cons_succ] at h0 h1 h2 h3 h4 h5 h6 h7
  refine ⟨c0.toNat - 48, c1.toNat - 48, c2.toNat - 48, c3.toNat - 48, c4.toNat - 48, c5.toNat - 48, c6.toNat - 48, c7.toNat - 48, ZO, ?_, ?_⟩
  ·simp only [pk, List.getD_cons_zero, List.getD_cons_succ]
   have e : (256 : Int) ^ 0 = 1 ∧ (256 : Int) ^ 1 = 256 ∧ (256 : Int) ^ 2 = 65536 ∧ (256 : Int) ^ 3 = 16777216 ∧ (256 : Int) ^ 4 = 4294967296 ∧ (256 : Int) ^ 5 = 1099511627776 ∧ (256 : Int) ^ 6 = 281474976710656 ∧ (256 : Int) ^ 7 = 72057594037927936 := by decide
   obtain ⟨e0, e1, e2, e3, e4, e5, e6, e7⟩ := e
   rw [e0, e1, e2, e3, e4, e5, e6, e7]
   omega
  simp only [pv, List.foldl_cons, List.foldl_nil]
  omega
theorem shl8 {m : Int} {k : Nat} (hk : k < 8) (hm : 0 ≤ m ∧ m ≤ 9) : IntKind.u64.wrap (m * 2 ^ (min (8 * (k : Int)).toNat IntKind.u64.bits)) = m * 256 ^ k := by
 have e : (2 : Int) ^ (min (8 * (k : Int)).toNat IntKind.u64.bits) = 256 ^ k := by
  rw [show min (8 * (k : Int)).toNat IntKind.u64.bits = 8 * k from by show min _ 64 = _; omega, Int.pow_mul]
  rfl
 have hp := Ma.pow_pos (show (0 : Int) < 256 by omega) k
 have h7 : (256 : Int) ^ k ≤ 256 ^ 7 := by
  have : (256 : Nat) ^ k ≤ 256 ^ 7 := Nat.pow_le_pow_right ZO ZO
  exact_mod_cast this
 have e7 : (256 : Int) ^ 7 = 72057594037927936 := by decide
 have h1 := Int.mul_nonneg hm.1 (Int.le_of_lt hp)
 have h2 : m * 256 ^ k ≤ 9 * 256 ^ k := Int.mul_le_mul_of_nonneg_right hm.2 (Int.le_of_lt hp)
 rw [e, Z1p ZO]
theorem or8 {a m : Int} {k : Nat} (hk : k < 8) (ha : 0 ≤ a ∧ a < 256 ^ k) (hm : 0 ≤ m ∧ m ≤ 9) : bitw .or .u64 a (m * 256 ^ k) = a + m * 256 ^ k := by
 have e : (256 : Int) ^ k = 2 ^ (8 * k) := by rw [Int.pow_mul]; rfl
 have hp := Ma.pow_pos (show (0 : Int) < 256 by omega) k
 have h7 : (256 : Int) ^ k ≤ 256 ^ 7 := by
  have : (256 : Nat) ^ k ≤ 256 ^ 7 := Nat.pow_le_pow_right ZO ZO
  exact_mod_cast this
 have e7 : (256 : Int) ^ 7 = 72057594037927936 := by decide
 have h2 : m * 256 ^ k ≤ 9 * 256 ^ k := Int.mul_le_mul_of_nonneg_right hm.2 (Int.le_of_lt hp)
 have hf : a + m * 256 ^ k ≤ 18446744073709551615 := by omega
 have ha2 := ha
 rw [e] at ha2 hf ⊢
 exact or_addS ha2 hm.1 hf
theorem Z6b : ∀ (l : L8), (∀ j, j < l.length → l.getD j 0 = 48) → pv l = 0
 | [], _ => rfl
 | c :: l, h => by
  have e := Z5A [c] l.length l rfl
  have h0 : c = 48 := by simpa using h 0 (by simp)
  have ih := Z6b l (fun j hj => by simpa using h (j + 1) (by simp; omega))
  rw [show c :: l = [c] ++ l from rfl, e, ih, h0]
  simp [pv]
theorem join3 {c0 c2 : Nat} (h0 : c0 ≤ 9999) (h2 : c2 ≤ 9999) : (((c0 : Int) + 4294967296 * c2) * 10000 + ((c0 : Int) + 4294967296 * c2) / 4294967296) % 4294967296 = 10000 * c0 + c2 := by
 have e1 : ((c0 : Int) + 4294967296 * c2) / 4294967296 = c2 := by omega
 have e2 : ((c0 : Int) + 4294967296 * c2) * 10000 + c2 = (10000 * c0 + c2) + 4294967296 * (10000 * c2) := by omega
 rw [e1, e2, Int.add_mul_emod_self_left]
 exact Int.emod_eq_of_lt ZO ZO
theorem take1 {l : L8} (h : 0 < l.length) : pv (l.take 1) = (((l.getD 0 0).toNat : Int) - 48) := by
 match l, h with
 | c :: l, _ => simp [pv]
theorem Z5c {l : L8} (h : ∀ j, j < l.length → isD (l.getD j 0)) (n : Nat) : ∀ j, j < (l.take n).length → isD ((l.take n).getD j 0) := fun j hj => by
 rw [List.length_take] at hj
 have := h j ZO
 simpa [List.getD, List.getElem?_take, show j < n by omega] using this
theorem Z5g {l : L8} (h : ∀ j, j < l.length → isD (l.getD j 0)) (n : Nat) : ∀ j, j < (l.drop n).length → isD ((l.drop n).getD j 0) := fun j hj => by
 rw [List.length_drop] at hj
 have := h (n + j) ZO
 simpa [List.getD, List.getElem?_drop] using this
theorem eightD (v : Value) (l : L8) (hd : ∀ j, j < l.length → isD (l.getD j 0)) (hL : l.length ≤ 1099511627776) (w : World) (hv : IB w v l) :
  Z0f P 255 [v] w fun r w' => r = .tuple #[.int .u64 (if l.length < 8 then 0 else pv (l.take 8)), .bool (decide (8 ≤ l.length))] ∧ w = w' := by
 refine Z0o func255 rfl ntmps255 rfl ?_
 refine Z03 (Z00 (Zg (Zg (Z01 (Z02 ?_)))))
 refine Zk [0] ?_
 refine Z03 (Z03 (Z00 (Zm ?_)))
 refine Z4W rfl rfl underlying25 rfl (by first | exact hv | exact h4_1 | assumption) ?_
 refine Zl ?_
 refine Z01 (Z02 ?_)
 refine Zk [0, 9] ?_
 (first | refine Z0c rfl ?_ ?_ | refine Z08 rfl ?_ ?_) <;> intro hc0
 ·refine Z03 (Z00 (Zg (Zg (Z01 (Z02 ?_)))))
  refine Zk [2, 3] ?_
  refine Z0i ?_
  refine Z07 ?_
  refine Z0P results255 rfl rfl ?_
  refine ⟨_, rfl, ?_⟩
  exact ⟨by rw [if_pos ZO, decide_eq_false ZO], rfl⟩
 refine Z0a (Z02 ?_)
 refine Zk [0] ?_
 refine Z03 (Z00 (Zg (Z01 (Z02 (Z03 (Z03 (Z00 ?_)))))))
 have hn8 : 8 ≤ l.length := by omega
 refine Zm ?_
 refine Z5B (l := 0) (h := 8) rfl rfl underlying25 tz5 rfl rfl rfl rfl hv ZD ZD (.inl rfl) (by simp) ZO ZI (fun v4_1 h4_1 ho4_1 => ?_)
 rw [Z59, List.drop_zero] at h4_1
 have hl8 : (l.take 8).length = 8 := by rw [List.length_take]; omega
 have hd8 := Z5c hd 8
 refine v_arr rfl rfl underlying367 tz367 rfl (by first | exact hv | exact h4_1 | assumption) (by first | (simp; done) | (simp; omega)) (by decide) rfl ?_
 refine Zm (Z01 (Z02 ?_))
 refine Zk [4, 13, 14] ?_
 refine Z0d ?_
 refine Z0z (ι := Nat) (fun (k : Nat) => 8 - k) (fun (k : Nat) (w' : World) => w = w' ∧ k ≤ 8) (fun (k : Nat) => [(4, .int .u64 (pk (l.take 8) k)), (14, .int .i64 (k : Int))]) [13] (0) ?_ (.cons rfl .nil) ?_ ?_
 ·exact ⟨rfl, ZO⟩
 ·exact (.cons rfl ZN (.cons rfl ZN .nil))
 rintro k _ ⟨rfl, hk⟩
 show RunC P _ _ _ (_ :: _) _
 refine Z03 (Z00 ?_)
 refine Zl ?_
 refine Z01 (Z02 (Z03 ?_))
 (first | refine Z0c rfl ?_ ?_ | refine Z08 rfl ?_ ?_) <;> intro hc1
 ·refine Z0a (Z02 ?_)
  refine Zk [4, 13, 14] ?_
  refine Z03 (Z0d (Z03 (Z00 (Zm ?_))))
  refine l_elemb (j := k) rfl rfl underlying367 underlying5 tz5 rfl rfl ZO (by first | omega | (simp; omega)) (by first | (simp; done) | (simp; omega)) (fun hb6_1 => ?_)
  refine Zg (Zg (Z01 (Z02 ?_)))
  refine Zk [4, 5, 6, 13, 14] ?_
  refine Z03 (Z03 (Z00 (Zm ?_)))
  refine Z13 rfl rfl func195 rfl rfl (.cons rfl .nil) (Z67 _ _) ?_
  first | refine Z38 rfl rfl rfl ?_ | refine Z3v rfl rfl rfl ?_
  refine Z01 (Z02 ?_)
  refine Zk [4, 5, 6, 13, 14, 20] ?_
  (first | refine Z0c rfl ?_ ?_ | refine Z08 rfl ?_ ?_) <;> intro hc2
  ·exact absurd (hd8 k ZO) hc2
  refine Z0a (Z02 ?_)
  refine Zk [4, 5, 6, 13, 14] ?_
  refine Z00 ?_
  have hk8 : k < 8 := by omega
  have hdk := hd8 k ZO
  unfold isD at hdk
  have hpk := pk_bd hd8 k ZO
  refine Zm (Zm ?_)
  refine Z0W rfl rfl rfl rfl (w_u8 ZO) ?_
  refine Z5a rfl rfl underlying5 underlying24 rfl (Z1p ZO) ?_
  refine Zm ?_
  refine Z20 rfl rfl rfl rfl (Z0l ZO) ?_
  refine Z5I rfl rfl rfl rfl ZO (shl8 hk8 ZO) ?_
  refine Z1i rfl rfl rfl rfl rfl (or8 hk8 hpk ZO) ?_
  refine Zg (Z01 ?_)
  refine Z0F ?_
  refine Z02 ?_
  refine Zk [4, 13, 14] ?_
  refine Z00 ?_
  refine Z0y rfl rfl rfl rfl (Z0l ZO) ?_
  refine Zm (Z01 ?_)
  refine Z0p (i := (k)) (k + 1) ?_ ?_ (.cons rfl .nil) ?_
  ·first | omega | (simp; omega)
  ·exact ⟨rfl, ZO⟩
  exact (.cons rfl ZN (.cons rfl ZN .nil))
 refine Z0H ?_
 refine Z06 ?_
 refine Z06 ?_
 refine Z0h ?_
 refine Z02 ?_
 refine Zk [4] ?_
 refine Z03 (Z00 ?_)
 obtain rfl : k = 8 := by omega
 obtain ⟨d0, d1, d2, d3, d4, d5, d6, d7, ⟨hd0, hd1, hd2, hd3, hd4, hd5, hd6, hd7⟩, hx, hpv⟩ := eight_val (l.take 8) hl8 hd8
 refine Z0j (s := 4) (v' := .int .u64 ((d0 : Int) + 256 * (d1 + 256 * (d2 + 256 * (d3 + 256 * (d4 + 256 * (d5 + 256 * (d6 + 256 * (d7 : Int))))))))) rfl (by rw [hx]) ?_
 refine Zm ?_
 refine Z20 rfl rfl rfl rfl (Z1p ZO) ?_
 refine Zm ?_
 refine Z3e rfl rfl rfl rfl ZO (Z2b (d := 256) (by decide) (by decide)) ?_
 refine Z0y rfl rfl rfl rfl (Z1p ZO) ?_
 refine Z1i rfl rfl rfl rfl rfl (mask8 (b0 := (10 * d0 + d1)) (b1 := (10 * d1 + d2)) (b2 := (10 * d2 + d3)) (b3 := (10 * d3 + d4)) (b4 := (10 * d4 + d5)) (b5 := (10 * d5 + d6)) (b6 := (10 * d6 + d7)) (b7 := (10 * d7)) ZO ZO ZO ZO ZO ZO ZO ZO ZO) ?_
 refine Zg (Z01 (Z02 ?_))
 refine Zk [4] ?_
 refine Z03 (Z00 (Zm ?_))
 refine Z20 rfl rfl rfl rfl (Z1p ZO) ?_
 refine Zm ?_
 refine Z3e rfl rfl rfl rfl ZO (Z2b (d := 65536) (by decide) (by decide)) ?_
 refine Z0y rfl rfl rfl rfl (Z1p ZO) ?_
 refine Z1i rfl rfl rfl rfl rfl (mask16 (b0 := (100 * (10 * d0 + d1) + (10 * d2 + d3))) (b1 := (100 * (10 * d2 + d3) + (10 * d4 + d5))) (b2 := (100 * (10 * d4 + d5) + (10 * d6 + d7))) (b3 := (100 * (10 * d6 + d7))) ZO ZO ZO ZO ZO) ?_
 refine Zg (Z01 (Z02 ?_))
 refine Zk [4] ?_
 refine Z03 (Z00 (Zm ?_))
 refine Z20 rfl rfl rfl rfl (Z1p ZO) ?_
 refine Zm ?_
 refine Z3e rfl rfl rfl rfl ZO (Z2b (d := 4294967296) (by decide) (by decide)) ?_
 refine Z0y rfl rfl rfl rfl (Z1p ZO) ?_
 refine Z1i rfl rfl rfl rfl rfl (Z3r 32 (d := 4294967296) ZO ZO (by decide) (by decide)) ?_
 refine Zg (Zg (Z01 (Z02 ?_)))
 refine Zk [2, 3] ?_
 refine Z0i ?_
 refine Z0P results255 rfl rfl ?_
 refine ⟨_, rfl, ?_⟩
 refine ⟨?_, rfl⟩
 rw [if_neg ZO, decide_eq_true hn8, hpv]
 refine congrArg (fun z : Int => Value.tuple #[.int .u64 z, .bool true]) ?_
 rw [join3 ZO ZO]
 clear hx hpv
 omega
theorem valueD (v : Value) (l : L8) (hd : ∀ j, j < l.length → isD (l.getD j 0)) (h1 : 1 ≤ l.length) (h19 : l.length ≤ 19) (w : World) (hv : IB w v l) :
  Z0f P 212 [v] w fun r w' => r = .tuple #[.int .u64 (pv l), .int .i64 0] ∧ w = w' := by
 refine Z0o func212 rfl ntmps212 rfl ?_
 have hrun : run (l.drop 0) = l.length := by rw [List.drop_zero]; exact run_is l l.length hd (Nat.le_refl _) (fun h => absurd h ZO)
 refine Z03 (Z00 (Zg (Zg (Z01 (Z02 ?_)))))
 refine Zk [0] ?_
 refine Z03 (Z03 (Z00 (Zm ?_)))
 refine Z4W rfl rfl underlying25 rfl (by first | exact hv | exact hvb | assumption) ?_
 refine Ze ?_
 refine Zm ?_
 apply l_or 5 [0] rfl rfl (.cons rfl (.cons rfl .nil)) rfl rfl (fun _ => rfl) rfl rfl rfl
 ·intro hg1_4
  refine Zm ?_
  refine Zp func147 (Z5u v l ZO 0 ZO w hv) ?_
  refine Zm ?_
  refine Z4W rfl rfl underlying25 rfl (by first | exact hv | exact hvb | assumption) ?_
  refine Zl ?_
  refine Z01 ?_
  exact Z0O rfl (.cons rfl (ZF hg1_4) (.cons rfl rfl .nil))
 refine Z01 (Z02 ?_)
 refine Zk [0, 17] ?_
 (first | refine Z0c rfl ?_ ?_ | refine Z08 rfl ?_ ?_) <;> intro hc0
 ·omega
 refine Z0a (Z02 ?_)
 refine Zk [0] ?_
 refine Z03 (Z0d ?_)
 refine Z0z (ι := Value × Nat) (fun (z0 : Value × Nat) => match z0 with | ⟨vb, z⟩ => l.length - z) (fun (z0 : Value × Nat) (w' : World) => match z0 with | ⟨vb, z⟩ => w = w' ∧ IV w vb (bys (l.drop z)) ∧ z ≤ l.length ∧ ∀ j, j < z → l.getD j 0 = 48) (fun (z0 : Value × Nat) => match z0 with | ⟨vb, z⟩ => [(0, vb)]) [] (v, 0) ?_ .nil ?_ ?_
 ·exact ⟨rfl, hv, ZO, fun j hj => by omega⟩
 ·exact (.cons rfl ZN .nil)
 rintro ⟨vb, z⟩ _ ⟨rfl, hvb, hz, hzs⟩
 show RunC P _ _ _ (_ :: _) _
 have hlz : (l.drop z).length = l.length - z := List.length_drop
 refine Z03 (Z03 (Z00 (Zm ?_)))
 refine Z4W rfl rfl underlying25 rfl (by first | exact hv | exact hvb | assumption) ?_
 refine Zw ?_
 refine Zm ?_
 apply Z47 4 [0] rfl rfl (.cons rfl (.cons rfl .nil)) rfl rfl (fun _ => rfl) rfl rfl rfl
 ·intro hg3_4
  refine Zm ?_
  refine Z4Z (j := 0) rfl rfl rfl rfl underlying25 tz5 underlying5 rfl rfl (by first | exact hv | exact hvb | assumption) rfl ZO ZI (fun hb3_5 => ?_)
  refine Ze ?_
  refine Z01 ?_
  exact Z0O rfl (.cons rfl (ZT hg3_4) (.cons rfl rfl .nil))
 refine Z01 (Z02 ?_)
 refine Zk [0, 26] ?_
 (first | refine Z0c rfl ?_ ?_ | refine Z08 rfl ?_ ?_) <;> intro hc1
 ·refine Z0a (Z02 ?_)
  refine Zk [0] ?_
  refine Z0d (Z00 (Zm ?_))
  refine Z5B (l := 1) (h := (l.drop z).length) rfl rfl underlying25 tz5 rfl rfl rfl rfl hvb ZD ZD (.inl rfl) (by simp) ZO ZI (fun v4_1 h4_1 ho4_1 => ?_)
  rw [Z59, List.take_length, List.drop_drop] at h4_1
  refine Zg (Z01 ?_)
  refine Z0F ?_
  refine Z0p (i := (vb, z)) (v4_1, z + 1) ?_ ?_ .nil ?_
  ·first | omega | (simp; omega)
  ·refine ⟨rfl, h4_1, ZO, fun j hj => ?_⟩
   rcases Nat.lt_or_ge j z with h | h
   ·exact hzs j h
   obtain rfl : j = z := by omega
   have := hc1.2
   rw [Z4Y] at this
   exact Z5U.1 this
  exact (.cons rfl ZN .nil)
 refine Z0H ?_
 refine Z06 ?_
 refine Z06 ?_
 refine Z0h ?_
 refine Z02 ?_
 refine Zk [0] ?_
 refine Z03 (Z03 (Z00 (Zm ?_)))
 refine Z4W rfl rfl underlying25 rfl (by first | exact hv | exact hvb | assumption) ?_
 refine Zw ?_
 refine Z01 (Z02 ?_)
 refine Zk [0, 31] ?_
 (first | refine Z0c rfl ?_ ?_ | refine Z08 rfl ?_ ?_) <;> intro hc2
 ·simp only [List.length_drop] at hc2
  omega
 refine Z0a (Z02 ?_)
 refine Zk [0] ?_
 refine Z03 (Z00 (Zg (Z01 (Z02 (Z03 (Z0d ?_))))))
 refine Z0z (ι := Value × Nat × Int) (fun (z0 : Value × Nat × Int) => match z0 with | ⟨vb, y, x⟩ => l.length - y) (fun (z0 : Value × Nat × Int) (w' : World) => match z0 with | ⟨vb, y, x⟩ => w = w' ∧ IV w vb (bys (l.drop y)) ∧ y ≤ l.length ∧ x = pv (l.take y)) (fun (z0 : Value × Nat × Int) => match z0 with | ⟨vb, y, x⟩ => [(0, vb), (4, .int .u64 x)]) [] (vb, z, 0) ?_ .nil ?_ ?_
 ·exact ⟨rfl, hvb, ZO, (Z6b _ (fun j hj => by rw [List.length_take] at hj; have := hzs j ZO; simpa [List.getD, List.getElem?_take, show j < z by omega] using this)).symm⟩
 ·exact (.cons rfl ZN (.cons rfl ZN .nil))
 rintro ⟨vb, y, x⟩ _ ⟨rfl, hvb, hy, hx⟩
 show RunC P _ _ _ (_ :: _) _
 have hly : (l.drop y).length = l.length - y := List.length_drop
 have hxb := Z50 (l.take y).length (l.take y) rfl (Z5w (Z5c hd y))
 rw [List.length_take, Nat.min_eq_left hy, ← hx] at hxb
 refine Z03 (Z03 (Z00 (Zm ?_)))
 refine Z4W rfl rfl underlying25 rfl (by first | exact hv | exact hvb | assumption) ?_
 refine Zw ?_
 refine Z01 (Z02 ?_)
 refine Zk [0, 4, 34] ?_
 (first | refine Z0c rfl ?_ ?_ | refine Z08 rfl ?_ ?_) <;> intro hc3
 ·refine Z0a (Z02 ?_)
  refine Zk [0, 4] ?_
  refine Z0d (Z03 (Z03 (Z00 (Zm ?_))))
  refine Zp func255 (eightD vb (l.drop y) (Z5g hd y) (by rw [List.length_drop]; omega) w hvb) ?_
  refine Zm ?_
  refine Zx (Zx (Zg (Zg (Z01 (Z02 ?_)))))
  refine Zk [0, 4, 5, 6] ?_
  refine Z03 (Z00 (Zm (Zm ?_)))
  apply Z47 2 [0, 4, 5] rfl rfl (.cons rfl (.cons rfl (.cons rfl (.cons rfl .nil)))) rfl rfl (fun _ => rfl) rfl rfl rfl
  ·intro hg10_2
   refine Zm ?_
   refine Zl ?_
   refine Z01 ?_
   exact Z0O rfl (.cons rfl (ZT hg10_2) (.cons rfl rfl (.cons rfl rfl (.cons rfl rfl .nil))))
  refine Z01 (Z02 ?_)
  refine Zk [0, 4, 5, 44] ?_
  (first | refine Z0c rfl ?_ ?_ | refine Z08 rfl ?_ ?_) <;> intro hc4
  ·refine Z03 (Z00 ?_)
   have hif : (if (l.drop y).length < 8 then (0 : Int) else pv ((l.drop y).take 8)) = pv ((l.drop y).take 8) := if_neg ZO
   refine Z0j (s := 5) (v' := .int .u64 (pv ((l.drop y).take 8))) rfl (by rw [hif]; rfl) ?_
   have hp8 := Z50 8 ((l.drop y).take 8) (by rw [List.length_take]; omega) (Z5w (Z5c (Z5g hd y) 8))
   have e8 : (10 : Int) ^ 8 = 100000000 := by decide
   rw [e8] at hp8
   refine Zm ?_
   refine Z20 rfl rfl rfl rfl (Z1p ZO) ?_
   refine Zm ?_
   refine Z0y rfl rfl rfl rfl (Z1p ZO) ?_
   refine Zg (Z01 (Z02 ?_))
   refine Zk [0, 4] ?_
   refine Z03 (Z00 (Zm ?_))
   refine Z5B (l := 8) (h := (l.drop y).length) rfl rfl underlying25 tz5 rfl rfl rfl rfl hvb ZD ZD (.inl rfl) (by simp) ZO ZI (fun v12_1 h12_1 ho12_1 => ?_)
   rw [Z59, List.take_length, List.drop_drop] at h12_1
   refine Zg (Z01 (Z02 ?_))
   refine Zk [0, 4] ?_
   refine Z0H ?_
   refine Z06 ?_
   refine Z0h ?_
   refine Z0p (i := (vb, y, x)) (v12_1, y + 8, x * 100000000 + pv ((l.drop y).take 8)) ?_ ?_ .nil ?_
   ·first | omega | (simp; omega)
   ·refine ⟨rfl, h12_1, ZO, ?_⟩
    rw [Z5q l y hy 8 ZO, hx]
    rfl
   exact (.cons rfl ZN (.cons rfl ZN .nil))
  refine Z0a (Z02 ?_)
  refine Zk [0, 4] ?_
  refine Z03 (Z00 ?_)
  have hdy := Z5g hd y 0 ZO
  unfold isD at hdy
  have hx18 : x < 1000000000000000000 := by
   have h18 : (10 : Int) ^ y ≤ 10 ^ 18 := by
    have : (10 : Nat) ^ y ≤ 10 ^ 18 := Nat.pow_le_pow_right ZO ZO
    exact_mod_cast this
   have e18 : (10 : Int) ^ 18 = 1000000000000000000 := by decide
   omega
  refine Zm ?_
  refine Z4Z (j := 0) rfl rfl rfl rfl underlying25 tz5 underlying5 rfl rfl (by first | exact hv | exact hvb | assumption) rfl ZO ZI (fun hb13_1 => ?_)
  refine Z0W rfl rfl rfl rfl (w_u8 ZO) ?_
  refine Z5a rfl rfl underlying5 underlying24 rfl (Z1p ZO) ?_
  refine Zg (Z01 (Z02 ?_))
  refine Zk [0, 4, 7] ?_
  refine Z03 (Z03 (Z00 (Zm (Zm ?_))))
  refine Z0W rfl rfl rfl rfl (Z1p ZO) ?_
  refine Z2D rfl rfl rfl rfl ZO (Z78 ZO) ?_
  refine Zw ?_
  refine Z01 (Z02 ?_)
  refine Zk [0, 4, 7, 60] ?_
  (first | refine Z0c rfl ?_ ?_ | refine Z08 rfl ?_ ?_) <;> intro hc5
  ·omega
  refine Z0a (Z02 ?_)
  refine Zk [0, 4, 7] ?_
  refine Z03 (Z00 (Zm ?_))
  refine Z20 rfl rfl rfl rfl (Z1p ZO) ?_
  refine Zm ?_
  refine Z0y rfl rfl rfl rfl (Z1p ZO) ?_
  refine Zg (Z01 (Z02 ?_))
  refine Zk [0, 4] ?_
  refine Z00 (Zm ?_)
  refine Z5B (l := 1) (h := (l.drop y).length) rfl rfl underlying25 tz5 rfl rfl rfl rfl hvb ZD ZD (.inl rfl) (by simp) ZO ZI (fun v17_1 h17_1 ho17_1 => ?_)
  rw [Z59, List.take_length, List.drop_drop] at h17_1
  refine Zg (Z01 ?_)
  refine Z0F ?_
  refine Z0p (i := (vb, y, x)) (v17_1, y + 1, 10 * x + (((l.drop y).getD 0 0).toNat - 48)) ?_ ?_ .nil ?_
  ·first | omega | (simp; omega)
  ·refine ⟨rfl, h17_1, ZO, ?_⟩
   rw [Z5q l y hy 1 ZO, ← hx, take1 ZO]
   show _ = x * 10 + (((l.drop y).getD 0 0).toNat - 48 : Int)
   omega
  exact (.cons rfl ZN (.cons rfl ZN .nil))
 refine Z0H ?_
 refine Z06 ?_
 refine Z06 ?_
 refine Z0h ?_
 refine Z02 ?_
 refine Zk [4] ?_
 refine Z03 (Z00 (Zm (Zg (Zg (Z01 (Z02 ?_))))))
 refine Zk [2, 3] ?_
 refine Z0i ?_
 refine Z0P results212 rfl rfl ?_
 refine ⟨_, rfl, ?_⟩
 refine ⟨?_, rfl⟩
 obtain rfl : y = l.length := by omega
 rw [hx, List.take_length]
def Z5e : L8 → L8
 | [] => []
 | c :: l => if c = 48 then Z5e l else c :: l
theorem skip0_drop : ∀ (l : L8) (z : Nat), z ≤ l.length → (∀ j, j < z → l.getD j 0 = 48) → (z < l.length → ¬ l.getD z 0 = 48) → Z5e l = l.drop z
 | [], z, h1, h2, h3 => by simp at h1; subst h1; rfl
 | c :: l, 0, h1, h2, h3 => by
  have := h3 (by simp)
  simp only [Z5e]
  rw [if_neg (by simpa using this)]
  rfl
 | c :: l, z + 1, h1, h2, h3 => by
  have h0 := h2 0 ZO
  simp only [Z5e]
  rw [if_pos (by simpa using h0), skip0_drop l z (by simpa using h1) (fun j hj => by simpa using h2 (j + 1) ZO) (fun h => by simpa using h3 (by simpa using h))]
  rfl
theorem Z6t (l : L8) : (Z5e l).length ≤ l.length := by
 induction l with
 | nil => simp [Z5e]
 | cons c l ih => simp only [Z5e]; split <;> simp <;> omega
theorem Z6c {l : L8} {x : UInt8} : x ∈ Z5e l → x ∈ l := by
 induction l with
 | nil => exact fun h => h
 | cons c l ih =>
  simp only [Z5e]
  split
  ·exact fun h => .tail _ (ih h)
  exact fun h => h
inductive Z5v (t : L8) : Bool → Int → L8 → L8 → Int → Int → Int → Prop
 | long (h : 1024 < t.length) : Z5v t false 0 [] [] 0 0 80
 | form {ng : Bool} {wd x a : Int} {W F : L8} (h : t.length ≤ 1024) (hc : CutR t ng wd W F x a false) : Z5v t false 0 [] [] 0 a 81
 | ok {ng : Bool} {wd x a : Int} {W F : L8} (h : t.length ≤ 1024) (hc : CutR t ng wd W F x a true) : Z5v t ng wd W F x 0 0
theorem Fr.digs {t : L8} {a b : Nat} {F : L8} (h : Fr t a F b) : ∀ x ∈ F, isD x := by
 cases h with
 | no _ => intro x hx; cases hx
 | yes _ _ =>
  intro x hx
  rw [List.drop_take] at hx
  obtain ⟨j, hj, rfl⟩ := List.getElem_of_mem hx
  rw [List.length_take, List.length_drop] at hj
  have := Z5n (t.drop (a + 1)) j ZO
  simpa [List.getD, List.getElem?_drop, show a + 1 + j < t.length by omega] using this
theorem Z5S {t : L8} {a1 : Nat} (e : a1 = sg t 0 + run (t.drop (sg t 0))) : ∀ x ∈ (t.take a1).drop (sg t 0), isD x := by
 intro x hx
 rw [List.drop_take] at hx
 obtain ⟨j, hj, rfl⟩ := List.getElem_of_mem hx
 rw [List.length_take, List.length_drop] at hj
 have := Z5n (t.drop (sg t 0)) j ZO
 simpa [List.getD, List.getElem?_drop, show sg t 0 + j < t.length by omega] using this
theorem expo_bd : ∀ (n : Nat) (ds : L8), ds.length = n → (∀ x ∈ ds, isD x) → 0 ≤ expo ds ∧ expo ds ≤ 99999
 | 0, b, h, _ => by
  obtain rfl := List.eq_nil_of_length_eq_zero h
  simp [expo]
 | n + 1, b, h, hd => by
  have hne : b ≠ [] := by intro e; subst e; simp at h
  have e := List.dropLast_concat_getLast hne
  have ih := expo_bd n b.dropLast (by simp [h]) (fun x hx => hd x ((List.dropLast_sublist b).subset hx))
  have hl := hd _ (List.getLast_mem hne)
  unfold isD at hl
  rw [← e, Z6I]
  omega
theorem CutR.facts {t : L8} {ng ok : Bool} {wd x a : Int} {W F : L8} (h : CutR t ng wd W F x a ok) : (∀ c ∈ W ++ F, isD c) ∧ W.length ≤ t.length ∧ F.length ≤ t.length ∧ -99999 ≤ x ∧ x ≤ 99999 ∧ 0 ≤ wd ∧ wd ≤ 2 := by
 have hW : ∀ a1 : Nat, ((t.take a1).drop (sg t 0)).length ≤ t.length := fun a1 => by rw [List.length_drop, List.length_take]; omega
 have hF : ∀ {a b : Nat} {F : L8}, Fr t a F b → F.length ≤ t.length := fun hf => by
  cases hf with
  | no _ => simp
  | yes _ _ => rw [List.length_drop, List.length_take]; omega
 cases h with
 | inf _ => simp
 | nan _ _ => simp
 | none h0 h1 e1 hf hz => exact ⟨fun c hc => (List.mem_append.1 hc).elim (Z5S e1 c) (hf.digs c), hW _, hF hf, ZO, ZO, ZO, ZO⟩
 | plain h0 h1 e1 hf hz => exact ⟨fun c hc => (List.mem_append.1 hc).elim (Z5S e1 c) (hf.digs c), hW _, hF hf, ZO, ZO, ZO, ZO⟩
 | bad h0 h1 e1 hf hz => exact ⟨fun c hc => (List.mem_append.1 hc).elim (Z5S e1 c) (hf.digs c), hW _, hF hf, ZO, ZO, ZO, ZO⟩
 | @exp F a1 a a4 j x h0 h1 e1 hf hz ha he e4 hj hr hx =>
  have hb := expo_bd _ ((t.drop a4).take j) rfl fun y hy => by
   obtain ⟨i, hi, rfl⟩ := List.getElem_of_mem hy
   rw [List.length_take, List.length_drop] at hi
   have := Z5n (t.drop a4) i ZO
   simpa [List.getD, List.getElem?_drop, show a4 + i < t.length by omega] using this
  refine ⟨fun c hc => (List.mem_append.1 hc).elim (Z5S e1 c) (hf.digs c), hW _, hF hf, ?_, ?_, ZO, ZO⟩ <;> rw [hx] <;> split <;> omega
theorem Z5v.facts {t : L8} {ng : Bool} {wd x p e : Int} {W F : L8} (h : Z5v t ng wd W F x p e) : (∀ c ∈ W ++ F, isD c) ∧ W.length ≤ t.length ∧ F.length ≤ t.length ∧ -99999 ≤ x ∧ x ≤ 99999 ∧ 0 ≤ wd ∧ wd ≤ 2 := by
 cases h with
 | long _ => simp
 | form _ _ => simp
 | ok _ hc => exact hc.facts
inductive Z5o (t : L8) : Bool → Int → Int → Int → Bool → Int → Int → Prop
 | err {ng : Bool} {wd x p e : Int} {W F : L8} (hr : Z5v t ng wd W F x p e) (he : ¬ e = 0) : Z5o t false 0 0 0 false p e
 | nil {ng : Bool} {wd x p : Int} {W F : L8} (hr : Z5v t ng wd W F x p 0) (hn : ¬ wd = 0 ∨ Z5e (W ++ F) = []) : Z5o t (decide (ng = true ∧ ¬ wd = 2)) wd 0 0 false 0 0
 | num {ng : Bool} {x p : Int} {W F : L8} {n : Nat} (hr : Z5v t ng 0 W F x p 0) (hne : ¬ Z5e (W ++ F) = []) (hn : n = (Z5e (W ++ F)).length - 19) :
   Z5o t ng 0 (pv ((Z5e (W ++ F)).take ((Z5e (W ++ F)).length - n))) (x - F.length + n) (((Z5e (W ++ F)).drop ((Z5e (W ++ F)).length - n)).any (fun c => !decide (c = 48))) 0 0
theorem any_snoc (l : L8) (k : Nat) (h : k < l.length) : ((l.take (k + 1)).any fun c => !decide (c = 48)) = ((l.take k).any (fun c => !decide (c = 48)) || !decide (l.getD k 0 = 48)) := by
 have e : l.getD k 0 = l[k] := by simp [List.getD, h]
 rw [List.take_succ_eq_append_getElem h, List.any_append, e]
 simp only [List.any_cons, List.any_nil, Bool.or_false]
theorem allS (ng : Bool) (wd x : Int) (vw vf : Value) (W F : L8) (hLW : W.length ≤ 1099511627776) (hLF : F.length ≤ 1099511627776) (w : World) (hvw : IV w vw (bys W)) (hvf : IV w vf (bys F)) :
  Z0f P 230 [.agg #[.bool ng, .int .i64 wd, vw, vf, .int .i64 x]] w fun r w' => ∃ v, r = v ∧ Grow w w' [As.iv v (bys (Z5e (W ++ F)))] := by
 refine Z0o func230 rfl ntmps230 rfl ?_
 have H0 := St.start w
 have hone1 := Z52 hvw
 have hone2 := Z52 hvf
 have happ : bys W ++ bys F = bys (W ++ F) := by simp [bys]
 refine Z03 (Z00 ?_)
 refine Z57 H0 rfl rfl rfl (fun b0_0 w1 H1 => ?_)
 refine Zg (Z01 (Z02 ?_))
 refine Zk [1] ?_
 refine Z03 ?_
 have H2 := H1.drewn
 refine Z1a (n := 7) [Zz,Zz,Zz,Zz,Zz,Zz,Zz] (fun wS => (As.blk b0_0 311 [.bool ng, .int .i64 wd, vw, vf, .int .i64 x]).ok wS) ZK rfl rfl ?_
 apply Zu (L' := [Zy,Zz,Zz,Zz,Zz,Zz,Zz]) 0 (H2.ok mem0)
 ·intro wS sS
  refine Z09 Z74 rfl rfl rfl (Z01 ?_)
  exact Z04 rfl
 apply Zu (L' := [Zy,Zy,Zz,Zz,Zz,Zz,Zz]) 1 (H2.ok mem0)
 ·intro wS sS
  refine Z05 (Z0r sS) mem0 rfl rfl underlying25 rfl rfl rfl ?_
  refine Z01 ?_
  exact Z04 rfl
 apply Zu (L' := [Zy,Zy,Zz,Zy,Zz,Zz,Zz]) 3 (H2.ok mem0)
 ·intro wS sS
  refine Z09 Z6j rfl rfl rfl (Z01 ?_)
  exact Z04 rfl
 apply Zu (L' := [Zy,Zy,Zz,Zy,Zy,Zz,Zz]) 4 (H2.ok mem0)
 ·intro wS sS
  refine Z05 (Z0r sS) mem0 rfl rfl underlying25 rfl rfl rfl ?_
  refine Z01 ?_
  exact Z04 rfl
 refine Z0v (L' := [Zy,Zy,Zy,Zy,Zy,Zz,Zz]) 2 ZK rfl rfl ?_
 refine Z5K H2 rfl rfl underlying25 ti5 rfl rfl rfl (by first | exact H2.ibl mem0 | exact H2.iarg hvw | exact H2.iarg hvf | assumption) (by first | exact Z4K _ _ | exact Z5L _ | simp [Value.oneCell']) (by first | (simp; done) | (simp; omega)) (by first | (simp; done) | (simp; omega)) (fun v1_2 w3 H3 => ?_)
 refine Z01 ?_
 refine Z0n (H3.ok mem1) ?_
 refine Z0v (L' := [Zy,Zy,Zy,Zy,Zy,Zy,Zz]) 5 ZK rfl rfl ?_
 refine Z45 H3 rfl rfl underlying25 ti5 rfl rfl rfl (by first | exact H3.io mem0 | exact H3.ibl mem1 | exact H3.iarg hvw | exact H3.iarg hvf | assumption) (by first | exact Z4K _ _ | exact Z5L _ | simp [Value.oneCell']) (by first | (simp; done) | (simp; omega)) (by first | (simp; done) | (simp; omega)) (fun v1_5 w4 H4 => ?_)
 rw [happ] at H4
 refine Z01 ?_
 refine Z0n (H4.ok mem1) ?_
 apply Zu (L' := [Zy,Zy,Zy,Zy,Zy,Zy,Zy]) 6 (H4.ok mem1)
 ·intro wS sS
  refine Zg (Z01 ?_)
  exact Z04 rfl
 refine Z0B ZK ?_
 refine Z02 ?_
 refine Zk [3] ?_
 refine Z03 (Z0d ?_)
 refine Z0z (ι := Value × Nat) (fun (z0 : Value × Nat) => match z0 with | ⟨vl, z⟩ => (W ++ F).length - z) (fun (z0 : Value × Nat) (w' : World) => match z0 with | ⟨vl, z⟩ => St w w.heap.size Z0J ([As.iv vl (bys ((W ++ F).drop z)), As.blk b0_0 311 [.bool ng, .int .i64 wd, vw, vf, .int .i64 x]]) w' ∧ z ≤ (W ++ F).length ∧ ∀ j, j < z → (W ++ F).getD j 0 = 48) (fun (z0 : Value × Nat) => match z0 with | ⟨vl, z⟩ => [(3, vl)]) [] (v1_5, 0) ?_ .nil ?_ ?_
 ·exact ⟨St.ro_iv H4, ZO, fun j hj => by omega⟩
 ·exact (.cons rfl ZN .nil)
 rintro ⟨vl, z⟩ w5 ⟨H5, hz, hzs⟩
 show RunC P _ _ _ (_ :: _) _
 have hlz : ((W ++ F).drop z).length = (W ++ F).length - z := List.length_drop
 have hlW : (W ++ F).length = W.length + F.length := by simp
 refine Z03 (Z03 (Z00 (Zm ?_)))
 refine Z4W rfl rfl underlying25 rfl (by first | exact H5.ii mem0 | exact H5.ibl mem1 | exact H5.iarg hvw | exact H5.iarg hvf | assumption) ?_
 refine Zw ?_
 refine Zm ?_
 apply Z47 4 [3] rfl rfl (.cons rfl (.cons rfl .nil)) rfl rfl (fun _ => rfl) rfl rfl rfl
 ·intro hg2_4
  refine Zm ?_
  refine Z4Z (j := 0) rfl rfl rfl rfl underlying25 tz5 underlying5 rfl rfl (by first | exact H5.ii mem0 | exact H5.ibl mem1 | exact H5.iarg hvw | exact H5.iarg hvf | assumption) rfl ZO ZI (fun hb2_5 => ?_)
  refine Ze ?_
  refine Z01 ?_
  exact Z0O rfl (.cons rfl (ZT hg2_4) (.cons rfl rfl .nil))
 refine Z01 (Z02 ?_)
 refine Zk [3, 18] ?_
 (first | refine Z0c rfl ?_ ?_ | refine Z08 rfl ?_ ?_) <;> intro hc0
 ·refine Z0a (Z02 ?_)
  refine Zk [3] ?_
  refine Z0d (Z00 (Zm ?_))
  refine Z5B (l := 1) (h := ((W ++ F).drop z).length) rfl rfl underlying25 tz5 rfl rfl rfl rfl (by first | exact H5.ii mem0 | exact H5.ibl mem1 | exact H5.iarg hvw | exact H5.iarg hvf | assumption) ZD ZD (.inl rfl) (by simp) ZO ZI (fun v3_1 h3_1 ho3_1 => ?_)
  rw [Z59, List.take_length, List.drop_drop] at h3_1
  have H6 := St.iv_cut H5 h3_1 ho3_1
  refine Zg (Z01 ?_)
  refine Z0F ?_
  refine Z0p (i := (vl, z)) (v3_1, z + 1) ?_ ?_ .nil ?_
  ·first | omega | (simp; omega)
  ·refine ⟨H6, ZO, fun j hj => ?_⟩
   rcases Nat.lt_or_ge j z with h | h
   ·exact hzs j h
   obtain rfl : j = z := by omega
   have := hc0.2
   rw [Z4Y] at this
   exact Z5U.1 this
  exact (.cons rfl ZN .nil)
 refine Z0H ?_
 refine Z06 ?_
 refine Z06 ?_
 refine Z0h ?_
 refine Z02 ?_
 refine Zk [3] ?_
 refine Z03 (Z00 (Zm (Zg (Z01 (Z02 ?_)))))
 refine Zk [2] ?_
 refine Z0i ?_
 refine Z0e results230 rfl ?_
 refine ⟨_, rfl, ?_⟩
 have H7 := St.del (.tail .head) H5
 have hsk : Z5e (W ++ F) = (W ++ F).drop z := skip0_drop _ z hz hzs (fun h h2 => hc0 ⟨ZO, by rw [Z4Y]; exact Z5U.2 h2⟩)
 exact ⟨_, rfl, by rw [hsk]; exact H7.grows⟩
theorem readS (v : Value) (t : L8) (hL : t.length ≤ 1099511627776) (w : World) (wr : World) (hv : IB w v t) (hvr : IB wr v t) :
  Z0f P 229 [v] w fun r w' => ∃ ng wd vw vf W F x p e, r = .tuple #[.agg #[.bool ng, .int .i64 wd, vw, vf, .int .i64 x], .int .i64 p, .int .i64 e] ∧ Z5v t ng wd W F x p e ∧ IV wr vw (bys W) ∧ IV wr vf (bys F) ∧ Grow w w' [] := by
 refine Z0o func229 rfl ntmps229 rfl ?_
 have H0 := St.start w
 have hnil := IV.nil wr
 refine Z03 (Z00 ?_)
 refine Z0X H0 ta311 rfl rfl (fun b0_0 w1 H1 => ?_)
 refine Zg (Zg (Z01 (Z02 ?_)))
 refine Zk [0, 2] ?_
 refine Z03 (Z03 (Z00 (Zm ?_)))
 refine Z4W rfl rfl underlying25 rfl (by first | exact H1.ibl mem0 | exact H1.iarg hv | assumption) ?_
 refine Zw ?_
 refine Z01 (Z02 ?_)
 refine Zk [0, 2, 8] ?_
 (first | refine Z0c rfl ?_ ?_ | refine Z08 rfl ?_ ?_) <;> intro hc0
 ·refine Z03 (Z00 ?_)
  refine Z16 rfl rfl pl311 ta311 .nil ?_
  refine Z0m H1 .head (.zero (.zero (.zero (.zero (.zero .nil))))) rfl Z51 rfl rfl ZC (fun w2 H2 => ?_)
  refine Zg (Zg (Z01 (Z02 ?_)))
  refine Zk [2, 3, 4] ?_
  refine Z0i ?_
  refine Z07 ?_
  refine Z12 results229 (.cell rfl (Z0E H2 mem0 underlying311 rfl Z51 (.take (.take (.take (.take (.take .nil)))))) (.tmp rfl (.tmp rfl .nil))) rfl ?_
  refine ⟨_, rfl, ?_⟩
  have H3 := St.del .head H2
  exact ⟨_, _, _, _, _, _, _, _, _, rfl, .long ZO, hnil, hnil, H3.grows⟩
 refine Z0a (Z02 ?_)
 refine Zk [0, 2] ?_
 refine Z03 (Z00 (Zm ?_))
 refine Zc func259 (cutS v t hL w1 wr (H1.iarg hv) hvr) ?_
 rintro _ w4 ⟨ng, wd, vw, vf, W, F, x, at', ok, rfl, hR, hvw, hvf, hG⟩
 have H4 := hG _ _ _ _ H1
 simp only [Zca, Zna] at H4
 have hone1 := Z52 hvw
 have hone2 := Z52 hvf
 skip
 refine Zm ?_
 refine Zx (Zx (Zx ?_))
 refine Z0m H4 .head (.zero (.zero (.zero (.zero (.zero .nil))))) rfl Z51 rfl rfl ZC (fun w5 H5 => ?_)
 refine Zg (Zg (Z01 (Z02 ?_)))
 refine Zk [2, 3, 5] ?_
 refine Z03 (Z03 (Z00 (Zm ?_)))
 first | refine Z38 rfl rfl rfl ?_ | refine Z3v rfl rfl rfl ?_
 refine Z01 (Z02 ?_)
 refine Zk [2, 3, 17] ?_
 (first | refine Z0c rfl ?_ ?_ | refine Z08 rfl ?_ ?_) <;> intro hc1
 ·refine Z03 (Z00 ?_)
  refine Z16 rfl rfl pl311 ta311 .nil ?_
  refine Zm ?_
  refine Z0m H5 .head (.zero (.zero (.zero (.zero (.zero .nil))))) rfl Z51 rfl rfl ZC (fun w6 H6 => ?_)
  refine Zg (Zg (Z01 (Z02 ?_)))
  refine Zk [2, 3, 4] ?_
  refine Z0i ?_
  refine Z07 ?_
  refine Z12 results229 (.cell rfl (Z0E H6 mem0 underlying311 rfl Z51 (.take (.take (.take (.take (.take .nil)))))) (.tmp rfl (.tmp rfl .nil))) rfl ?_
  refine ⟨_, rfl, ?_⟩
  have H7 := St.del .head H6
  have hok : ok = false := by simpa using hc1
  subst hok
  exact ⟨_, _, _, _, _, _, _, _, _, rfl, .form ZO hR, hnil, hnil, H7.grows⟩
 refine Z0a (Z02 ?_)
 refine Zk [2] ?_
 refine Z03 (Z00 ?_)
 refine Z1b H5 mem0 rfl rfl underlying311 rfl Z51 rfl (.take (.take (.take (.take (.take .nil))))) ?_
 refine Z0m H5 .head (.zero (.zero (.zero (.zero (.zero .nil))))) rfl Z51 rfl rfl ZC (fun w8 H8 => ?_)
 refine Zg (Zg (Z01 (Z02 ?_)))
 refine Zk [2, 3, 4] ?_
 refine Z0i ?_
 refine Z12 results229 (.cell rfl (Z0E H8 mem0 underlying311 rfl Z51 (.take (.take (.take (.take (.take .nil)))))) (.tmp rfl (.tmp rfl .nil))) rfl ?_
 refine ⟨_, rfl, ?_⟩
 have H9 := St.del .head H8
 have hok : ok = true := by simpa using hc1
 subst hok
 exact ⟨_, _, _, _, _, _, _, _, _, rfl, .ok ZO hR, hvw, hvf, H9.grows⟩
theorem scanS (v : Value) (t : L8) (hL : t.length ≤ 1099511627776) (w : World) (hv : IB w v t) :
  Z0f P 193 [v] w fun r w' => ∃ ng wd man x more p e, r = .tuple #[.agg #[.bool ng, .int .i64 wd, .int .u64 man, .int .i64 x, .bool more], .int .i64 p, .int .i64 e] ∧ Z5o t ng wd man x more p e ∧ Grow w w' [] := by
 refine Z0o func193 rfl ntmps193 rfl ?_
 have H0 := St.start w
 refine Z03 (Z00 ?_)
 refine Z0X H0 ta174 rfl rfl (fun b0_0 w1 H1 => ?_)
 refine Zg ?_
 refine Zg (Z01 (Z02 ?_))
 refine Zk [0, 2] ?_
 refine Z03 (Z00 (Zm ?_))
 refine Zc func229 (readS v t hL w1 w (H1.iarg hv) hv) ?_
 rintro _ w2 ⟨ng, wd, vw, vf, W, F, x, p, e, rfl, hR, hvw, hvf, hG⟩
 have H2 := hG _ _ _ _ H1
 simp only [Zca, Zna] at H2
 have hfac := hR.facts
 obtain ⟨hdg, hWl, hFl, hx1, hx2, H1', H2'⟩ := hfac
 have hone1 := Z52 hvw
 have hone2 := Z52 hvf
 refine Zm ?_
 refine Zx (Zx (Zx ?_))
 refine Z0X H2 ta311 rfl rfl (fun b1_6 w3 H3 => ?_)
 refine Z0m H3 .head (.zero (.zero (.zero (.zero (.zero .nil))))) rfl Z51 rfl rfl ZC (fun w4 H4 => ?_)
 refine Zg ?_
 refine Zg (Z01 (Z02 ?_))
 refine Zk [2, 3, 4, 5] ?_
 refine Z03 (Z03 (Z00 (Zm ?_)))
 refine Zo ?_
 refine Z01 (Z02 ?_)
 refine Zk [2, 3, 4, 5, 17] ?_
 (first | refine Z0c rfl ?_ ?_ | refine Z08 rfl ?_ ?_) <;> intro hc0
 ·refine Z03 (Z00 ?_)
  refine Z1b H4 mem1 rfl rfl underlying174 rfl Z68 rfl (.take (.take (.take (.take (.take .nil))))) ?_
  refine Zm ?_
  refine Zm ?_
  refine Z0m H4 (.tail .head) (.zero (.zero (.zero (.zero (.zero .nil))))) rfl Z68 rfl rfl ZC (fun w5 H5 => ?_)
  refine Zg ?_
  refine Zg (Z01 (Z02 ?_))
  refine Zk [2, 3, 4] ?_
  refine Z0i ?_
  refine Z07 ?_
  refine Z12 results193 (.cell rfl (Z0E H5 mem1 underlying174 rfl Z68 (.take (.take (.take (.take (.take .nil)))))) (.tmp rfl (.tmp rfl .nil))) rfl ?_
  refine ⟨_, rfl, ?_⟩
  have H7 := St.del .head (St.del (.tail .head) H5)
  exact ⟨_, _, _, _, _, _, _, rfl, .err hR hc0, H7.grows⟩
 refine Z0a (Z02 ?_)
 refine Zk [2, 5] ?_
 refine Z03 (Z00 (Z09 fo311_0 rfl rfl rfl ?_))
 refine Z05 H4 mem0 rfl rfl underlying4 rfl rfl rfl ?_
 refine Zm ?_
 refine Z0j (s := 23) (v' := .bool (decide (ng = true))) rfl (by cases ng <;> rfl) ?_
 apply Z47 3 [2, 5] rfl rfl (.cons rfl (.cons rfl (.cons rfl .nil))) rfl rfl (fun _ => rfl) rfl rfl rfl
 ·intro hg4_3
  refine Z09 Z6i rfl rfl rfl ?_
  refine Z05 H4 mem0 rfl rfl underlying3 rfl rfl rfl ?_
  refine Zo ?_
  refine Z01 ?_
  exact Z0O rfl (.cons rfl (ZT hg4_3) (.cons rfl rfl (.cons rfl rfl .nil)))
 refine Z09 Z6i rfl rfl rfl ?_
 refine Z05 H4 mem0 rfl rfl underlying3 rfl rfl rfl ?_
 refine Z16 rfl rfl pl174 ta174 (.one rfl rfl ZR .zero (.one rfl rfl ZR (.succ .zero) .nil)) ?_
 refine Z0m H4 (.tail .head) (.zero (.zero (.zero (.zero (.zero .nil))))) rfl Z68 rfl rfl ZC (fun w8 H8 => ?_)
 refine Z01 (Z02 ?_)
 refine Zk [2, 5] ?_
 refine Z03 (Z00 ?_)
 refine Z1b H8 mem0 rfl rfl underlying311 rfl Z51 rfl (.take (.take (.take (.take (.take .nil))))) ?_
 refine Zc func230 (allS ng wd x vw vf W F ZO ZO w8 (H8.iarg hvw) (H8.iarg hvf)) ?_
 rintro _ w9 ⟨vl, rfl, hG⟩
 have H9 := hG _ _ _ _ H8
 simp only [Zca, Zna] at H9
 obtain ⟨L, hLe⟩ : ∃ L, L = Z5e (W ++ F) := ⟨_, rfl⟩
 rw [← hLe] at H9
 have hLl := Z6t (W ++ F)
 rw [← hLe, List.length_append] at hLl
 have hdL : ∀ j, j < L.length → isD (L.getD j 0) := fun j hj => by
  have : L.getD j 0 ∈ L := by
   have e : L.getD j 0 = L[j] := by simp [List.getD, hj]
   rw [e]; exact List.getElem_mem hj
  exact hdg _ (Z6c (hLe ▸ this))
 refine Zg (Z01 (Z02 ?_))
 refine Zk [2, 5, 6] ?_
 refine Z03 (Z03 (Z00 (Z09 Z6i rfl rfl rfl ?_)))
 refine Z05 H9 mem1 rfl rfl underlying3 rfl rfl rfl ?_
 refine Zo ?_
 refine Zm ?_
 apply l_or 3 [2, 5, 6] rfl rfl (.cons rfl (.cons rfl (.cons rfl (.cons rfl .nil)))) rfl rfl (fun _ => rfl) rfl rfl rfl
 ·intro hg6_4
  refine Zm ?_
  refine Z4W rfl rfl underlying25 rfl (by first | exact H9.ii mem0 | exact H9.ibl mem1 | exact H9.ibl mem2 | exact H9.iarg hv | exact H9.iarg hvw | exact H9.iarg hvf | assumption) ?_
  refine Ze ?_
  refine Z01 ?_
  exact Z0O rfl (.cons rfl (ZF hg6_4) (.cons rfl rfl (.cons rfl rfl (.cons rfl rfl .nil))))
 refine Z01 (Z02 ?_)
 refine Zk [2, 5, 6, 40] ?_
 (first | refine Z0c rfl ?_ ?_ | refine Z08 rfl ?_ ?_) <;> intro hc1
 ·refine Z03 (Z00 ?_)
  refine Z1b H9 mem2 rfl rfl underlying174 rfl Z68 rfl (.take (.take (.take (.take (.take .nil))))) ?_
  refine Z0m H9 (.tail (.tail .head)) (.zero (.zero (.zero (.zero (.zero .nil))))) rfl Z68 rfl rfl ZC (fun w10 H10 => ?_)
  refine Zg ?_
  refine Zg (Z01 (Z02 ?_))
  refine Zk [2, 3, 4] ?_
  refine Z0i ?_
  refine Z07 ?_
  refine Z12 results193 (.cell rfl (Z0E H10 mem2 underlying174 rfl Z68 (.take (.take (.take (.take (.take .nil)))))) (.tmp rfl (.tmp rfl .nil))) rfl ?_
  refine ⟨_, rfl, ?_⟩
  have H13 := St.del .head (St.del (.tail .head) (St.del (.tail (.tail .head)) H10))
  have he : e = 0 := by omega
  subst he
  exact ⟨_, _, _, _, _, _, _, rfl, .nil hR (hc1.imp id fun h => List.eq_nil_of_length_eq_zero (by rw [← hLe]; omega)), H13.grows⟩
 refine Z0a (Z02 ?_)
 refine Zk [2, 5, 6] ?_
 refine Z03 (Z00 (Zm ?_))
 refine Z4W rfl rfl underlying25 rfl (by first | exact H9.ii mem0 | exact H9.ibl mem1 | exact H9.ibl mem2 | exact H9.iarg hv | exact H9.iarg hvw | exact H9.iarg hvf | assumption) ?_
 refine Z0W rfl rfl rfl rfl (Z0l ZO) ?_
 refine Z5T rfl rfl rfl rfl ?_
 refine Zg (Z01 (Z02 ?_))
 refine Zk [2, 5, 6, 7] ?_
 refine Z03 (Z00 ?_)
 have hwd : wd = 0 := by omega
 have hL0 : 0 < L.length := by omega
 obtain ⟨n, hn⟩ : ∃ n : Nat, n = L.length - 19 := ⟨_, rfl⟩
 have hdk := Z5c hdL (L.length - n)
 refine Z0j (s := 7) (v' := .int .i64 (n : Int)) rfl (congrArg (Value.int .i64) ZO) ?_
 refine Zm ?_
 refine Zm ?_
 refine Z4W rfl rfl underlying25 rfl (by first | exact H9.ii mem0 | exact H9.ibl mem1 | exact H9.ibl mem2 | exact H9.iarg hv | exact H9.iarg hvw | exact H9.iarg hvf | assumption) ?_
 refine Zm ?_
 refine Z0W rfl rfl rfl rfl (Z0l ZO) ?_
 refine Z5B (l := 0) (h := L.length - n) rfl rfl underlying25 tz5 rfl rfl rfl rfl (by first | exact H9.ii mem0 | exact H9.ibl mem1 | exact H9.ibl mem2 | exact H9.iarg hv | exact H9.iarg hvw | exact H9.iarg hvf | assumption) ZD ZD (.inl rfl) (by simp) ZO ZI (fun v9_5 h9_5 ho9_5 => ?_)
 rw [Z59, List.drop_zero] at h9_5
 refine Z13 rfl rfl func212 rfl rfl (.cons rfl .nil) (valueD _ (L.take (L.length - n)) hdk (by rw [List.length_take]; omega) (by rw [List.length_take]; omega) w9 h9_5) ?_
 refine Zm ?_
 refine Zx (Zx (Z09 Z5Z rfl rfl rfl ?_))
 refine Z0s H9 (.tail (.tail .head)) (by repeat (first | exact .zero | apply Z1F.succ)) rfl tz24 rfl rfl ZR (fun w14 H14 => ?_)
 refine Z01 (Z02 ?_)
 refine Zk [2, 5, 6, 7] ?_
 refine Z03 (Z00 (Z09 Z5x rfl rfl rfl ?_))
 refine Z05 H14 mem1 rfl rfl underlying3 rfl rfl rfl ?_
 refine Z09 Z6j rfl rfl rfl ?_
 refine Z05 H14 mem1 rfl rfl underlying25 rfl rfl rfl ?_
 refine Z4W rfl rfl underlying25 rfl (by first | exact H14.ii mem0 | exact H14.ibl mem1 | exact H14.ibl mem2 | exact H14.iarg hv | exact H14.iarg hvw | exact H14.iarg hvf | assumption) ?_
 refine Z0W rfl rfl rfl rfl (Z0l ZO) ?_
 refine Zm ?_
 refine Z0y rfl rfl rfl rfl (Z0l ZO) ?_
 refine Z09 Z5i rfl rfl rfl ?_
 refine Z0s H14 (.tail (.tail .head)) (by repeat (first | exact .zero | apply Z1F.succ)) rfl tz3 rfl rfl ZR (fun w15 H15 => ?_)
 refine Z01 (Z02 ?_)
 refine Zk [2, 6, 7] ?_
 refine Z03 (Z03 (Z00 (Zm ?_)))
 refine Zm ?_
 refine Z4W rfl rfl underlying25 rfl (by first | exact H15.ii mem0 | exact H15.ibl mem1 | exact H15.ibl mem2 | exact H15.iarg hv | exact H15.iarg hvw | exact H15.iarg hvf | assumption) ?_
 refine Zm ?_
 refine Z0W rfl rfl rfl rfl (Z0l ZO) ?_
 refine Z5B (l := L.length - n) (h := L.length) rfl rfl underlying25 tz5 rfl rfl rfl rfl (by first | exact H15.ii mem0 | exact H15.ibl mem1 | exact H15.ibl mem2 | exact H15.iarg hv | exact H15.iarg hvw | exact H15.iarg hvf | assumption) ZD ZD (.inl rfl) (by simp) ZO ZI (fun v11_5 h11_5 ho11_5 => ?_)
 rw [Z59, List.take_length] at h11_5
 have htl : (L.drop (L.length - n)).length = n := by rw [List.length_drop]; omega
 have H16 := St.iv_cut H15 h11_5 ho11_5
 refine Z4W rfl rfl underlying25 rfl (by first | exact H16.ii mem0 | exact H16.ibl mem1 | exact H16.ibl mem2 | exact H16.iarg hv | exact H16.iarg hvw | exact H16.iarg hvf | assumption) ?_
 refine Zm (Z01 (Z02 ?_))
 refine Zk [2, 71, 72, 73] ?_
 refine Z0d ?_
 refine Z0z (ι := Nat × Bool) (fun (z0 : Nat × Bool) => match z0 with | ⟨k, mb⟩ => n - k) (fun (z0 : Nat × Bool) (w' : World) => match z0 with | ⟨k, mb⟩ => St w w.heap.size Z0J ([As.iv v11_5 (bys (L.drop (L.length - n))), As.blk b1_6 311 [.bool ng, .int .i64 wd, vw, vf, .int .i64 x], As.blk b0_0 174 [.bool (decide (ng = true ∧ ¬ wd = 2)), .int .i64 wd, .int .u64 (pv (L.take (L.length - n))), .int .i64 (x - (F.length : Int) + (n : Int)), .bool mb]]) w' ∧ k ≤ n ∧ mb = ((L.drop (L.length - n)).take k).any (fun c => !decide (c = 48))) (fun (z0 : Nat × Bool) => match z0 with | ⟨k, mb⟩ => [(73, .int .i64 (k : Int))]) [2, 71, 72] (0, false) ?_ (.cons rfl (.cons rfl (.cons rfl .nil))) ?_ ?_
 ·exact ⟨H16, ZO, rfl⟩
 ·exact (.cons rfl ZN .nil)
 rintro ⟨k, mb⟩ w17 ⟨H17, hk, hmb⟩
 show RunC P _ _ _ (_ :: _) _
 refine Z03 (Z00 ?_)
 refine Zl ?_
 refine Z01 (Z02 (Z03 ?_))
 (first | refine Z0c rfl ?_ ?_ | refine Z08 rfl ?_ ?_) <;> intro hc2
 ·refine Z0a (Z02 ?_)
  refine Zk [2, 71, 72, 73] ?_
  refine Z03 (Z0d (Z03 (Z00 ?_)))
  skip
  refine Z4Z rfl rfl rfl rfl underlying25 tz5 underlying5 rfl rfl (by first | exact H17.ii mem0 | exact H17.ibl mem1 | exact H17.ibl mem2 | exact H17.iarg hv | exact H17.iarg hvw | exact H17.iarg hvf | assumption) rfl rfl ZI (fun hb13_0 => ?_)
  refine Zg (Z01 (Z02 ?_))
  refine Zk [2, 9, 71, 72, 73] ?_
  refine Z00 (Z09 Z73 rfl rfl rfl ?_)
  refine Z05 H17 mem2 rfl rfl underlying4 rfl rfl rfl ?_
  refine Zm ?_
  refine Z0j (s := 79) (v' := .bool (decide (mb = true))) rfl (by cases mb <;> rfl) ?_
  apply l_or 2 [2, 71, 72, 73] rfl rfl (.cons rfl (.cons rfl (.cons rfl (.cons rfl (.cons rfl .nil))))) rfl rfl (fun _ => rfl) rfl rfl rfl
  ·intro hg14_3
   refine Zm ?_
   refine Zo ?_
   refine Z01 ?_
   exact Z0O rfl (.cons rfl (ZF hg14_3) (.cons rfl rfl (.cons rfl rfl (.cons rfl rfl (.cons rfl rfl .nil)))))
  refine Z09 Z73 rfl rfl rfl ?_
  refine Z0s H17 (.tail (.tail .head)) (by repeat (first | exact .zero | apply Z1F.succ)) rfl tz4 rfl rfl ZR (fun w18 H18 => ?_)
  refine Z01 ?_
  refine Z0F ?_
  refine Z02 ?_
  refine Zk [2, 71, 72, 73] ?_
  refine Z00 ?_
  refine Z0y rfl rfl rfl rfl (Z0l ZO) ?_
  refine Zm (Z01 ?_)
  refine Z0p (i := (k, mb)) (k + 1, decide (mb = true ∨ ¬ ((((L.drop (L.length - n)).getD k 0).toNat : Int)) = 48)) ?_ ?_ (.cons rfl (.cons rfl (.cons rfl .nil))) ?_
  ·first | omega | (simp; omega)
  ·refine ⟨H18, ZO, ?_⟩
   rw [any_snoc _ _ ZO, ← hmb]
   have e : ((((L.drop (L.length - n)).getD k 0).toNat : Int) = 48) ↔ ((L.drop (L.length - n)).getD k 0 = 48) := Z5U (d := 48)
   generalize (L.drop (L.length - n)).getD k 0 = cc at e ⊢
   by_cases h : cc = 48
   ·have h2 := e.2 h
    simp [h]
   have h2 : ¬ (cc.toNat : Int) = 48 := fun h3 => h (e.1 h3)
   rw [decide_eq_true (Or.inr h2), decide_eq_false h]
   simp
  exact (.cons rfl ZN .nil)
 refine Z0H ?_
 refine Z06 ?_
 refine Z06 ?_
 refine Z0h ?_
 refine Z02 ?_
 refine Zk [2] ?_
 refine Z03 (Z00 ?_)
 refine Z1b H17 mem2 rfl rfl underlying174 rfl Z68 rfl (.take (.take (.take (.take (.take .nil))))) ?_
 refine Z0m H17 (.tail (.tail .head)) (.zero (.zero (.zero (.zero (.zero .nil))))) rfl Z68 rfl rfl ZC (fun w19 H19 => ?_)
 refine Zg ?_
 refine Zg (Z01 (Z02 ?_))
 refine Zk [2, 3, 4] ?_
 refine Z0i ?_
 refine Z12 results193 (.cell rfl (Z0E H19 mem2 underlying174 rfl Z68 (.take (.take (.take (.take (.take .nil)))))) (.tmp rfl (.tmp rfl .nil))) rfl ?_
 refine ⟨_, rfl, ?_⟩
 have H22 := St.del .head (St.del (.tail .head) (St.del (.tail (.tail .head)) H19))
 have he : e = 0 := by omega
 subst he hwd
 have hng : decide (ng = true ∧ ¬ (0 : Int) = 2) = ng := by cases ng <;> rfl
 obtain rfl : k = n := by omega
 rw [List.take_of_length_le ZO] at hmb
 rw [hng, hmb, hLe]
 rw [hLe] at hn
 exact ⟨_, _, _, _, _, _, _, rfl, .num hR (fun h => by rw [← hLe] at h; rw [h] at hL0; simp at hL0) hn, H22.grows⟩
end Go.Proofs.YtgjgahmhoflgcaaGreatDoor.W
