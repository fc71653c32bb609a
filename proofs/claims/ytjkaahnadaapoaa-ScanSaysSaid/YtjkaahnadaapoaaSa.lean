/- walks of digit.Run, scan.like, scan.cut -/
import Derived.Test.YtjkaahnadaapoaaFa
import Derived.Test.YtjkaahnadaapoaaVg
import Derived.Test.YtjkaahnadaapoaaMa
set_option linter.unusedVariables false
set_option linter.unusedSimpArgs false
set_option maxRecDepth 10000
namespace Go.Proofs.Ytjkaahnadaapoaa.W
open Go.Vc Go.RowKit

abbrev L8 := List UInt8
theorem bys_cut (t : L8) (l h : Nat) : ((bys t).take h).drop l = bys ((t.take h).drop l) := by simp [bys, List.map_drop, List.map_take]
theorem bys_len (t : L8) : (bys t).length = t.length := by simp [bys]
theorem or32 (c : UInt8) : bitw .or .u8 (c.toNat : Int) 32 = ((c ||| 32).toNat : Int) := by
  have key : ∀ k : Fin 256, bitw .or .u8 ((UInt8.ofNat k.val).toNat : Int) 32 = ((UInt8.ofNat k.val ||| 32).toNat : Int) := by decide +kernel
  have := key ⟨c.toNat, UInt8.toNat_lt c⟩
  simpa using this
theorem u8_eq {c d : UInt8} : ((c.toNat : Int) = (d.toNat : Int)) ↔ c = d := by rw [Int.natCast_inj, UInt8.toNat_inj]
/-- how many of a word's bytes a text begins with -/
def like : L8 → L8 → Nat
  | c :: s, k :: w => if (c ||| 32) = k then like s w + 1 else 0
  | _, _ => 0
theorem like_le : ∀ (s w : L8), like s w ≤ s.length ∧ like s w ≤ w.length
  | [], _ => by simp [like]
  | _ :: _, [] => by simp [like]
  | c :: s, k :: w => by
    have := like_le s w
    simp only [like, List.length_cons]
    split <;> omega
theorem like_is : ∀ (s w : L8) (n : Nat), n ≤ s.length → n ≤ w.length → (∀ j, j < n → (s.getD j 0 ||| 32) = w.getD j 0) → (n < s.length → n < w.length → ¬ (s.getD n 0 ||| 32) = w.getD n 0) → like s w = n
  | [], w, n, h1, h2, h3, h4 => by simp at h1; subst h1; simp [like]
  | c :: s, [], n, h1, h2, h3, h4 => by simp at h2; subst h2; simp [like]
  | c :: s, k :: w, 0, h1, h2, h3, h4 => by
    have := h4 (by simp) (by simp)
    simp only [like]
    rw [if_neg (by simpa using this)]
  | c :: s, k :: w, n + 1, h1, h2, h3, h4 => by
    have h0 := h3 0 (by omega)
    simp only [like]
    rw [if_pos (by simpa using h0)]
    rw [like_is s w n (by simpa using h1) (by simpa using h2) (fun j hj => by simpa using h3 (j + 1) (by omega)) (fun a b => by simpa using h4 (by simpa using a) (by simpa using b))]
def infw : L8 := [105, 110, 102, 105, 110, 105, 116, 121]
def nanw : L8 := [110, 97, 110]
/-- the number that an exponent's digits say, clipped -/
def expo (ds : L8) : Int := ds.foldl (fun x c => min (10 * x + ((c.toNat : Int) - 48)) 99999) 0
theorem expo_snoc (ds : L8) (c : UInt8) : expo (ds ++ [c]) = min (10 * expo ds + ((c.toNat : Int) - 48)) 99999 := by simp [expo]
def sgP (t : L8) (i : Nat) : Prop := ((t.getD i 0).toNat : Int) = 43 ∨ ((t.getD i 0).toNat : Int) = 45
instance (t : L8) (i : Nat) : Decidable (sgP t i) := by unfold sgP; infer_instance
/-- behind a sign -/
def sg (t : L8) (i : Nat) : Nat := if i < t.length ∧ sgP t i then i + 1 else i
def ngb (t : L8) : Bool := decide (((t.getD 0 0).toNat : Int) = 45)
/-- the digits behind a point, and where they end -/
inductive Fr (t : L8) (a : Nat) : L8 → Nat → Prop
  | no (h : a < t.length → ¬ ((t.getD a 0).toNat : Int) = 46) : Fr t a [] a
  | yes (h1 : a < t.length) (h2 : ((t.getD a 0).toNat : Int) = 46) : Fr t a ((t.take (a + 1 + run (t.drop (a + 1)))).drop (a + 1)) (a + 1 + run (t.drop (a + 1)))
def eP (t : L8) (i : Nat) : Prop := ((t.getD i 0 ||| 32).toNat : Int) = 101
/-- how a text is cut: sign, word, digits ahead of the point and behind, exponent, where it stops to be a number's, whether it is one -/
inductive CutR (t : L8) : Bool → Int → L8 → L8 → Int → Int → Bool → Prop
  | inf (h : 0 < like (t.drop (sg t 0)) infw) : CutR t (ngb t) 1 [] [] 0 ((sg t 0 : Int) + (like (t.drop (sg t 0)) infw : Int)) (decide ((sg t 0 : Int) + (like (t.drop (sg t 0)) infw : Int) = (t.length : Int) ∧ ((like (t.drop (sg t 0)) infw : Int) = 3 ∨ (like (t.drop (sg t 0)) infw : Int) = 8)))
  | nan (h0 : like (t.drop (sg t 0)) infw = 0) (h : 0 < like (t.drop (sg t 0)) nanw) : CutR t (ngb t) 2 [] [] 0 ((sg t 0 : Int) + (like (t.drop (sg t 0)) nanw : Int)) (decide ((sg t 0 : Int) + (like (t.drop (sg t 0)) nanw : Int) = (t.length : Int) ∧ (like (t.drop (sg t 0)) nanw : Int) = 3))
  | none {F : L8} {a1 a : Nat} (h0 : like (t.drop (sg t 0)) infw = 0) (h1 : like (t.drop (sg t 0)) nanw = 0) (e1 : a1 = sg t 0 + run (t.drop (sg t 0))) (hf : Fr t a1 F a) (hz : ((t.take a1).drop (sg t 0)).length + F.length = 0) : CutR t (ngb t) 0 ((t.take a1).drop (sg t 0)) F 0 (a : Int) false
  | plain {F : L8} {a1 a : Nat} (h0 : like (t.drop (sg t 0)) infw = 0) (h1 : like (t.drop (sg t 0)) nanw = 0) (e1 : a1 = sg t 0 + run (t.drop (sg t 0))) (hf : Fr t a1 F a) (hz : 0 < ((t.take a1).drop (sg t 0)).length + F.length) (he : a < t.length → ¬ eP t a) : CutR t (ngb t) 0 ((t.take a1).drop (sg t 0)) F 0 (a : Int) (decide ((a : Int) = (t.length : Int)))
  | bad {F : L8} {a1 a a4 : Nat} (h0 : like (t.drop (sg t 0)) infw = 0) (h1 : like (t.drop (sg t 0)) nanw = 0) (e1 : a1 = sg t 0 + run (t.drop (sg t 0))) (hf : Fr t a1 F a) (hz : 0 < ((t.take a1).drop (sg t 0)).length + F.length) (ha : a < t.length) (he : eP t a) (e4 : a4 = sg t (a + 1)) (hr : run (t.drop a4) = 0) : CutR t (ngb t) 0 ((t.take a1).drop (sg t 0)) F 0 (a4 : Int) false
  | exp {F : L8} {a1 a a4 j : Nat} {x : Int} (h0 : like (t.drop (sg t 0)) infw = 0) (h1 : like (t.drop (sg t 0)) nanw = 0) (e1 : a1 = sg t 0 + run (t.drop (sg t 0))) (hf : Fr t a1 F a) (hz : 0 < ((t.take a1).drop (sg t 0)).length + F.length) (ha : a < t.length) (he : eP t a) (e4 : a4 = sg t (a + 1)) (hj : j = run (t.drop a4)) (hr : 0 < j)
      (hx : x = if ((t.getD (a + 1) 0).toNat : Int) = 45 then 0 - expo ((t.drop a4).take j) else expo ((t.drop a4).take j)) : CutR t (ngb t) 0 ((t.take a1).drop (sg t 0)) F x ((a4 + j : Nat) : Int) (decide (((a4 + j : Nat) : Int) = (t.length : Int)))
theorem sg_le (t : L8) {i : Nat} (h : i ≤ t.length) : i ≤ sg t i ∧ sg t i ≤ t.length ∧ sg t i ≤ i + 1 := by unfold sg; split <;> omega
theorem run_drop_le (t : L8) (a : Nat) (h : a ≤ t.length) : a + run (t.drop a) ≤ t.length := by
  have := run_le (t.drop a)
  rw [List.length_drop] at this
  omega
theorem cut_len (t : L8) {l h : Nat} (h1 : h ≤ t.length) : ((t.take h).drop l).length = h - l := by rw [List.length_drop, List.length_take]; omega

theorem run_dig (v : Value) (l : List UInt8) (hv0 : l.length ≤ 140737488355328) (a : Nat) (ha : a ≤ l.length) (w : World) (hv : IB w v l) :
    CallsV P 45 [v, .int .i64 (a : Int)] w fun r w' => r = .int .i64 (run (l.drop a) : Int) ∧ w = w' := by
  refine enterW Try.func45 rfl Try.ntmps45 rfl ?_
  refine c_seq ?_
  refine c_region ?_
  refine l_assign rfl rfl rfl ?_
  refine l_nil ?_
  refine e_then ?_
  refine c_keep [0, 1] (.cons rfl (.cons rfl .nil)) ?_
  refine c_seq ?_
  refine c_seq ?_
  refine c_region ?_
  refine l_move rfl rfl rfl ?_
  refine l_lss rfl rfl rfl rfl ?_
  refine l_move rfl rfl rfl ?_
  apply l_or 4 [0, 1] rfl rfl (.cons rfl (.cons rfl (.cons rfl .nil))) rfl rfl (fun _ => rfl) rfl rfl rfl
  · intro hg1_3
    refine l_move rfl rfl rfl ?_
    refine l_move rfl rfl rfl ?_
    refine v_lenb rfl rfl Try.underlying22 rfl (by first | exact hv | exact h4_2 | assumption) ?_
    refine l_geq rfl rfl rfl rfl ?_
    refine l_nil ?_
    exact e_stays rfl (.cons rfl (congrArg Value.bool (decide_eq_false hg1_3).symm) (.cons rfl rfl (.cons rfl rfl .nil)))
  refine l_nil ?_
  refine e_then ?_
  refine c_keep [0, 1, 15] (.cons rfl (.cons rfl (.cons rfl .nil))) ?_
  first | refine c_cond rfl (fun hc0 => ?_) (fun hc0 => ?_) | refine c_condb rfl (fun hc0 => ?_) (fun hc0 => ?_)
  · skip
    refine c_seq ?_
    refine c_region ?_
    refine l_assign rfl rfl rfl ?_
    refine l_nil ?_
    refine e_then ?_
    refine c_keep [4] (.cons rfl .nil) ?_
    refine c_ret ?_
    refine e_then_ret ?_
    refine e_done1 Try.results45 rfl ?_
    refine ⟨_, rfl, ?_⟩
    refine ⟨congrArg (Value.int .i64) ?_, rfl⟩
    have : l.drop a = [] := List.drop_eq_nil_of_le (by omega)
    rw [this]
    rfl
  · skip
    refine c_skip ?_
    refine e_then ?_
    refine c_keep [0, 1] (.cons rfl (.cons rfl .nil)) ?_
    refine c_seq ?_
    refine c_region ?_
    refine l_assign rfl rfl rfl ?_
    refine l_nil ?_
    refine e_then ?_
    refine c_seq ?_
    refine c_seq ?_
    refine c_region ?_
    refine l_move rfl rfl rfl ?_
    refine l_move rfl rfl rfl ?_
    refine v_cut (l := a) (h := l.length) rfl rfl Try.underlying22 tz5 rfl rfl rfl rfl hv (by first | rfl | (simp; done) | (simp; omega)) (by first | rfl | (simp; done) | (simp; omega)) (.inl rfl) (by simp) (by omega) (by first | omega | (simp; omega) | (simp; done)) (fun v4_2 h4_2 ho4_2 => ?_)
    rw [bys_cut, List.take_length] at h4_2
    refine v_lenb rfl rfl Try.underlying22 rfl (by first | exact hv | exact h4_2 | assumption) ?_
    refine l_move rfl rfl rfl ?_
    refine l_nil ?_
    refine e_then ?_
    refine c_keep [5, 18, 19, 20] (.cons rfl (.cons rfl (.cons rfl (.cons rfl .nil)))) ?_
    refine c_block ?_
    refine c_loopk (ι := Nat) (fun (k : Nat) => (l.drop a).length - k) (fun (k : Nat) (w' : World) => w = w' ∧ k ≤ (l.drop a).length ∧ ∀ j, j < k → isD ((l.drop a).getD j 0)) (fun (k : Nat) => [(5, .int .i64 (k : Int)), (20, .int .i64 (k : Int))]) [18, 19] (0) ?_ (.cons rfl (.cons rfl .nil)) ?_ ?_
    · exact ⟨rfl, by omega, fun j hj => by omega⟩
    · exact (.cons rfl (by first | rfl | (refine congrArg (Value.int _) ?_; omega)) (.cons rfl (by first | rfl | (refine congrArg (Value.int _) ?_; omega)) .nil))
    rintro k _ ⟨rfl, hk, hd⟩
    show RunC P _ _ _ (_ :: _) _
    refine c_seq ?_
    refine c_region ?_
    refine l_lss rfl rfl rfl rfl ?_
    refine l_nil ?_
    refine e_then ?_
    refine c_seq ?_
    first | refine c_cond rfl (fun hc1 => ?_) (fun hc1 => ?_) | refine c_condb rfl (fun hc1 => ?_) (fun hc1 => ?_)
    · skip
      refine c_skip ?_
      refine e_then ?_
      refine c_keep [5, 18, 19, 20] (.cons rfl (.cons rfl (.cons rfl (.cons rfl .nil)))) ?_
      refine c_seq ?_
      refine c_block ?_
      refine c_seq ?_
      refine c_region ?_
      have hdl : (l.drop a).length = l.length - a := List.length_drop
      refine v_getbr rfl rfl rfl rfl Try.underlying22 tz5 Try.underlying5 rfl rfl (by first | exact hv | exact h4_2 | assumption) rfl rfl (by omega) (fun hb6_0 => ?_)
      refine l_assign rfl rfl rfl ?_
      refine l_nil ?_
      refine e_then ?_
      refine c_keep [5, 7, 18, 19, 20] (.cons rfl (.cons rfl (.cons rfl (.cons rfl (.cons rfl .nil))))) ?_
      refine c_seq ?_
      refine c_seq ?_
      refine c_region ?_
      refine l_move rfl rfl rfl ?_
      refine l_callp rfl rfl Try.func58 rfl rfl (.cons rfl .nil) (is_digit _ _) ?_
      first | refine l_notd rfl rfl rfl ?_ | refine l_not rfl rfl rfl ?_
      refine l_nil ?_
      refine e_then ?_
      refine c_keep [5, 18, 19, 20, 26] (.cons rfl (.cons rfl (.cons rfl (.cons rfl (.cons rfl .nil))))) ?_
      first | refine c_cond rfl (fun hc2 => ?_) (fun hc2 => ?_) | refine c_condb rfl (fun hc2 => ?_) (fun hc2 => ?_)
      · skip
        refine c_exit ?_
        refine e_then_exit ?_
        refine e_blk_other rfl ?_
        refine e_then_exit ?_
        refine e_then_exit ?_
        refine e_blk_exit ?_
        refine e_then ?_
        refine c_keep [5] (.cons rfl .nil) ?_
        refine c_seq ?_
        refine c_region ?_
        refine l_move rfl rfl rfl ?_
        refine l_assign rfl rfl rfl ?_
        refine l_nil ?_
        refine e_then ?_
        refine c_keep [4] (.cons rfl .nil) ?_
        refine c_ret ?_
        refine e_done1 Try.results45 rfl ?_
        refine ⟨_, rfl, ?_⟩
        refine ⟨congrArg (Value.int .i64) (congrArg Nat.cast ?_), rfl⟩
        exact (run_is _ k hd hk fun h => hc2).symm
      · skip
        refine c_skip ?_
        refine e_then ?_
        refine c_keep [5, 18, 19, 20] (.cons rfl (.cons rfl (.cons rfl (.cons rfl .nil)))) ?_
        refine c_region ?_
        refine l_move rfl rfl rfl ?_
        refine l_add rfl rfl rfl rfl (w_i64 (by omega)) ?_
        refine l_assign rfl rfl rfl ?_
        refine l_nil ?_
        refine e_blk ?_
        refine e_then ?_
        refine c_keep [5, 18, 19, 20] (.cons rfl (.cons rfl (.cons rfl (.cons rfl .nil)))) ?_
        refine c_region ?_
        refine l_add rfl rfl rfl rfl (w_i64 (by omega)) ?_
        refine l_move rfl rfl rfl ?_
        refine l_nil ?_
        refine e_againk (i := (k)) (k + 1) ?_ ?_ (.cons rfl (.cons rfl .nil)) ?_
        · first | omega | (simp; omega)
        · refine ⟨rfl, by omega, fun j hj => ?_⟩
          rcases Nat.lt_or_ge j k with h | h
          · exact hd j h
          · obtain rfl : j = k := by omega
            exact Classical.byContradiction hc2
        · exact (.cons rfl (by first | rfl | (refine congrArg (Value.int _) ?_; omega)) (.cons rfl (by first | rfl | (refine congrArg (Value.int _) ?_; omega)) .nil))
    · skip
      refine c_exit ?_
      refine e_then_exit ?_
      refine e_then_exit ?_
      refine e_blk_exit ?_
      refine e_then ?_
      refine c_keep [5] (.cons rfl .nil) ?_
      refine c_seq ?_
      refine c_region ?_
      refine l_move rfl rfl rfl ?_
      refine l_assign rfl rfl rfl ?_
      refine l_nil ?_
      refine e_then ?_
      refine c_keep [4] (.cons rfl .nil) ?_
      refine c_ret ?_
      refine e_done1 Try.results45 rfl ?_
      refine ⟨_, rfl, ?_⟩
      refine ⟨congrArg (Value.int .i64) (congrArg Nat.cast ?_), rfl⟩
      exact (run_is _ k hd hk fun h => absurd h (by omega)).symm
theorem likeS (v : Value) (t d : L8) (hL : t.length ≤ 1099511627776) (hLd : d.length ≤ 1099511627776) (w : World) (hv : IB w v t) :
    CallsV P 57 [v, str d] w fun r w' => r = .int .i64 (like t d : Int) ∧ Grow w w' [] := by
  refine enterW Try.func57 rfl Try.ntmps57 rfl ?_
  have hw0 := St.start w
  refine c_seq ?_
  refine c_region ?_
  refine l_assign rfl rfl rfl ?_
  refine l_nil ?_
  refine e_then ?_
  refine c_keep [0, 1] (.cons rfl (.cons rfl .nil)) ?_
  refine c_seq ?_
  refine c_region ?_
  refine l_assign rfl rfl rfl ?_
  refine l_nil ?_
  refine e_then ?_
  refine c_seq ?_
  refine c_block ?_
  refine c_loopk (ι := Nat) (fun (k : Nat) => t.length - k) (fun (k : Nat) (w' : World) => St w w.heap.size None' ([]) w' ∧ k ≤ t.length ∧ k ≤ d.length ∧ ∀ j, j < k → (t.getD j 0 ||| 32) = d.getD j 0) (fun (k : Nat) => [(5, .int .i64 (k : Int))]) [0, 1] (0) ?_ (.cons rfl (.cons rfl .nil)) ?_ ?_
  · exact ⟨hw0, by omega, by omega, fun j hj => by omega⟩
  · exact (.cons rfl (by first | rfl | (refine congrArg (Value.int _) ?_; omega)) .nil)
  rintro k w1 ⟨hw1, hk, hkd, heq⟩
  show RunC P _ _ _ (_ :: _) _
  refine c_seq ?_
  refine c_seq ?_
  refine c_still (by kernel_rfl) (by kernel_rfl) ?_
  have hw2 := hw1.drewn
  try clear hw1
  refine l_move rfl rfl rfl ?_
  refine l_move rfl rfl rfl ?_
  refine v_lenb rfl rfl Try.underlying22 rfl (by first | exact hw2.iarg hv | assumption) ?_
  refine l_lss rfl rfl rfl rfl ?_
  refine l_move rfl rfl rfl ?_
  apply l_and 4 [0, 1, 5] rfl rfl (.cons rfl (.cons rfl (.cons rfl (.cons rfl .nil)))) rfl rfl (fun _ => rfl) rfl rfl rfl
  · intro hg2_5
    refine l_move rfl rfl rfl ?_
    refine l_move rfl rfl rfl ?_
    refine l_lenstr rfl rfl Try.underlying9 rfl ?_
    refine l_lss rfl rfl rfl rfl ?_
    refine l_nil ?_
    exact e_stays rfl (.cons rfl (congrArg Value.bool (decide_eq_true hg2_5).symm) (.cons rfl rfl (.cons rfl rfl (.cons rfl rfl .nil))))
  refine l_move rfl rfl rfl ?_
  apply l_and 9 [0, 1, 5] rfl rfl (.cons rfl (.cons rfl (.cons rfl (.cons rfl .nil)))) rfl rfl (fun _ => rfl) rfl rfl rfl
  · intro hg2_11
    refine l_move rfl rfl rfl ?_
    refine l_move rfl rfl rfl ?_
    refine v_getbr rfl rfl rfl rfl Try.underlying22 tz5 Try.underlying5 rfl rfl (by first | exact hw2.iarg hv | assumption) rfl rfl (by omega) (fun hb2_13 => ?_)
    refine l_bits rfl rfl rfl rfl rfl (or32 _) ?_
    refine l_move rfl rfl rfl ?_
    refine l_move rfl rfl rfl ?_
    refine v_gets rfl rfl Try.underlying9 rfl rfl rfl (by first | omega | (simp; omega) | (simp; done)) (fun hb2_18 => ?_)
    refine l_eql rfl rfl rfl rfl ?_
    refine l_nil ?_
    exact e_stays rfl (.cons rfl (congrArg Value.bool (decide_eq_true hg2_11).symm) (.cons rfl rfl (.cons rfl rfl (.cons rfl rfl .nil))))
  refine l_nil ?_
  refine e_then ?_
  refine c_keep [0, 1, 5, 26] (.cons rfl (.cons rfl (.cons rfl (.cons rfl .nil)))) ?_
  first | refine c_cond rfl (fun hc0 => ?_) (fun hc0 => ?_) | refine c_condb rfl (fun hc0 => ?_) (fun hc0 => ?_)
  · skip
    refine c_skip ?_
    refine e_then ?_
    refine c_keep [0, 1, 5] (.cons rfl (.cons rfl (.cons rfl .nil))) ?_
    refine c_block ?_
    refine c_region ?_
    refine l_move rfl rfl rfl ?_
    refine l_add rfl rfl rfl rfl (w_i64 (by omega)) ?_
    refine l_assign rfl rfl rfl ?_
    refine l_nil ?_
    refine e_blk ?_
    refine e_againk (i := (k)) (k + 1) ?_ ?_ (.cons rfl (.cons rfl .nil)) ?_
    · first | omega | (simp; omega)
    · refine ⟨hw2, by omega, by omega, fun j hj => ?_⟩
      rcases Nat.lt_or_ge j k with h | h
      · exact heq j h
      · obtain rfl : j = k := by omega
        exact u8_eq.1 hc0.2
    · exact (.cons rfl (by first | rfl | (refine congrArg (Value.int _) ?_; omega)) .nil)
  · skip
    refine c_exit ?_
    refine e_then_exit ?_
    refine e_then_exit ?_
    refine e_blk_exit ?_
    refine e_then ?_
    refine c_keep [5] (.cons rfl .nil) ?_
    refine c_seq ?_
    refine c_region ?_
    refine l_move rfl rfl rfl ?_
    refine l_assign rfl rfl rfl ?_
    refine l_nil ?_
    refine e_then ?_
    refine c_keep [4] (.cons rfl .nil) ?_
    refine c_ret ?_
    refine e_done1 Try.results57 rfl ?_
    refine ⟨_, rfl, ?_⟩
    exact ⟨congrArg (Value.int .i64) (congrArg Nat.cast (like_is t d k hk hkd heq fun h1 h2 h3 => hc0 ⟨⟨by omega, by omega⟩, u8_eq.2 h3⟩).symm), hw2.grows⟩

theorem take_snoc_drop (t : L8) {a j : Nat} (h : a + j < t.length) : (t.drop a).take (j + 1) = (t.drop a).take j ++ [t.getD (a + j) 0] := by
  rw [List.take_succ_eq_append_getElem (by rw [List.length_drop]; omega)]
  simp [List.getD, h]
theorem sg_yes {t : L8} {i : Nat} (h : i < t.length) (hs : sgP t i) : sg t i = i + 1 := if_pos ⟨h, hs⟩
theorem sg_no {t : L8} {i : Nat} (h : ¬ (i < t.length ∧ sgP t i)) : sg t i = i := if_neg h
theorem ngb_no {t : L8} (h : ¬ ((0 : Int) < (t.length : Int) ∧ (((t.getD 0 0).toNat : Int) = 43 ∨ ((t.getD 0 0).toNat : Int) = 45))) : ngb t = false := by
  unfold ngb
  rw [decide_eq_false_iff_not]
  intro e
  cases t with
  | nil => simp at e
  | cons c t => exact h ⟨by simp, .inr e⟩
theorem getD_nil0 {t : L8} {i : Nat} (h : t.length ≤ i) : t.getD i 0 = 0 := by simp [List.getD, h]

theorem cutS (v : Value) (t : L8) (hL : t.length ≤ 1099511627776) (w : World) (wr : World) (hv : IB w v t) (hvr : IB wr v t) :
    CallsV P 44 [v] w fun r w' => ∃ ng wd vw vf W F x at' ok, r = .tuple #[.agg #[.bool ng, .int .i64 wd, vw, vf, .int .i64 x], .int .i64 at', .bool ok] ∧ CutR t ng wd W F x at' ok ∧ IV wr vw (bys W) ∧ IV wr vf (bys F) ∧ Grow w w' [] := by
  refine enterW Try.func44 rfl Try.ntmps44 rfl ?_
  have hw0 := St.start w
  have hnil := IV.nil wr
  have hs0 := sg_le t (i := 0) (by omega)
  have hr0 := run_drop_le t (sg t 0) (by omega)
  refine c_seq ?_
  refine c_region ?_
  refine l_alloc hw0 ta62 rfl rfl (fun b0_0 w1 hw1 => ?_)
  try clear hw0
  refine l_assign rfl rfl rfl ?_
  refine l_assign rfl rfl rfl ?_
  refine l_nil ?_
  refine e_then ?_
  refine c_keep [0, 2, 3] (.cons rfl (.cons rfl (.cons rfl .nil))) ?_
  refine c_scope 6 ?_
  refine c_cutk (ι := Bool × Nat) (fun (z0 : Bool × Nat) (w' : World) => match z0 with | ⟨ng, k⟩ => St w w.heap.size None' ([As.blk b0_0 62 [.bool ng, .int .i64 0, .slice none 0 0, .slice none 0 0, .int .i64 0]]) w' ∧ ng = ngb t ∧ k = sg t 0) (fun (z0 : Bool × Nat) => match z0 with | ⟨ng, k⟩ => [(3, .int .i64 (k : Int))]) [0, 2] (.cons rfl (.cons rfl .nil)) ?_ ?_
  · skip
    refine c_seq ?_
    refine c_region ?_
    refine l_move rfl rfl rfl ?_
    refine v_lenb rfl rfl Try.underlying22 rfl (by first | exact hw1.ibl mem0 | exact hw1.iarg hv | assumption) ?_
    refine l_gtr rfl rfl rfl rfl ?_
    refine l_move rfl rfl rfl ?_
    apply l_and 10 [0, 2, 3] rfl rfl (.cons rfl (.cons rfl (.cons rfl (.cons rfl .nil)))) rfl rfl (fun _ => rfl) rfl rfl rfl
    · intro hg1_4
      refine l_move rfl rfl rfl ?_
      refine v_getbr (j := 0) rfl rfl rfl rfl Try.underlying22 tz5 Try.underlying5 rfl rfl (by first | exact hw1.ibl mem0 | exact hw1.iarg hv | assumption) rfl (by omega) (by omega) (fun hb1_5 => ?_)
      refine l_eql rfl rfl rfl rfl ?_
      refine l_move rfl rfl rfl ?_
      apply l_or 4 [0, 2, 3, 11] rfl rfl (.cons rfl (.cons rfl (.cons rfl (.cons rfl (.cons rfl .nil))))) rfl rfl (fun _ => rfl) rfl rfl rfl
      · intro hg1_9
        refine l_move rfl rfl rfl ?_
        refine v_getbr (j := 0) rfl rfl rfl rfl Try.underlying22 tz5 Try.underlying5 rfl rfl (by first | exact hw1.ibl mem0 | exact hw1.iarg hv | assumption) rfl (by omega) (by omega) (fun hb1_10 => ?_)
        refine l_eql rfl rfl rfl rfl ?_
        refine l_nil ?_
        exact e_stays rfl (.cons rfl (congrArg Value.bool (decide_eq_false hg1_9).symm) (.cons rfl rfl (.cons rfl rfl (.cons rfl rfl (.cons rfl rfl .nil)))))
      refine l_nil ?_
      exact e_stays rfl (.cons rfl (congrArg Value.bool (decide_eq_true hg1_4).symm) (.cons rfl rfl (.cons rfl rfl (.cons rfl rfl .nil))))
    refine l_nil ?_
    refine e_then ?_
    refine c_keep [0, 2, 3, 22] (.cons rfl (.cons rfl (.cons rfl (.cons rfl .nil)))) ?_
    first | refine c_cond rfl (fun hc0 => ?_) (fun hc0 => ?_) | refine c_condb rfl (fun hc0 => ?_) (fun hc0 => ?_)
    · skip
      refine c_seq ?_
      refine c_region ?_
      refine l_move rfl rfl rfl ?_
      refine v_getbr (j := 0) rfl rfl rfl rfl Try.underlying22 tz5 Try.underlying5 rfl rfl (by first | exact hw1.ibl mem0 | exact hw1.iarg hv | assumption) rfl (by omega) (by omega) (fun hb2_1 => ?_)
      refine l_eql rfl rfl rfl rfl ?_
      refine l_field fo62_0 rfl rfl rfl ?_
      refine l_store_blk hw1 .head (by repeat (first | exact .zero | apply SetAt.succ)) rfl tz4 rfl rfl (by first | rfl | assumption) (fun w2 hw2 => ?_)
      try clear hw1
      refine l_nil ?_
      refine e_then ?_
      refine c_keep [0, 2] (.cons rfl (.cons rfl .nil)) ?_
      refine c_region ?_
      refine l_assign rfl rfl rfl ?_
      refine l_nil ?_
      refine e_meetk (decide (((t.getD 0 0).toNat : Int) = 45), 1) ?_ (.cons rfl (.cons rfl .nil)) ?_
      · exact ⟨hw2, rfl, (sg_yes (by omega) hc0.2).symm⟩
      · exact (.cons rfl (by first | rfl | (refine congrArg (Value.int _) ?_; omega)) .nil)
    · skip
      refine c_skip ?_
      refine e_meetk (false, 0) ?_ (.cons rfl (.cons rfl .nil)) ?_
      · exact ⟨hw1, (ngb_no hc0).symm, (sg_no (fun h => hc0 ⟨by omega, h.2⟩)).symm⟩
      · exact (.cons rfl (by first | rfl | (refine congrArg (Value.int _) ?_; omega)) .nil)
  rintro ⟨ng, k⟩ w3 ⟨hw3, rfl, rfl⟩
  show RunC P _ _ _ (_ :: _) _
  refine c_seq ?_
  refine c_region ?_
  refine l_move rfl rfl rfl ?_
  refine l_assign rfl rfl rfl ?_
  refine l_nil ?_
  refine e_then ?_
  refine c_keep [0, 2, 3, 5] (.cons rfl (.cons rfl (.cons rfl (.cons rfl .nil)))) ?_
  refine c_seq ?_
  refine c_seq ?_
  refine c_region ?_
  refine l_move rfl rfl rfl ?_
  refine l_move rfl rfl rfl ?_
  refine v_cut (l := sg t 0) (h := t.length) rfl rfl Try.underlying22 tz5 rfl rfl rfl rfl hv (by first | rfl | (simp; done) | (simp; omega)) (by first | rfl | (simp; done) | (simp; omega)) (.inl rfl) (by simp) (by omega) (by first | omega | (simp; omega) | (simp; done)) (fun v5_2 h5_2 ho5_2 => ?_)
  rw [bys_cut, List.take_length] at h5_2
  refine l_call rfl rfl Try.func57 rfl rfl (.cons rfl (.cons rfl .nil)) (likeS _ (t.drop (sg t 0)) infw (by rw [List.length_drop]; omega) (by decide) w3 (hw3.iarg h5_2)) ?_
  rintro _ w4 ⟨rfl, hG⟩
  have hw4 := hG _ _ _ _ hw3
  try clear hG hw3
  simp only [List.cons_append, List.nil_append] at hw4
  refine l_assign rfl rfl rfl ?_
  refine l_nil ?_
  refine e_then ?_
  refine c_keep [0, 2, 3, 5, 6] (.cons rfl (.cons rfl (.cons rfl (.cons rfl (.cons rfl .nil))))) ?_
  refine c_seq ?_
  refine c_region ?_
  have hl1 := like_le (t.drop (sg t 0)) infw
  rw [List.length_drop] at hl1
  refine l_move rfl rfl rfl ?_
  refine l_gtr rfl rfl rfl rfl ?_
  refine l_nil ?_
  refine e_then ?_
  refine c_keep [0, 2, 3, 5, 6, 34] (.cons rfl (.cons rfl (.cons rfl (.cons rfl (.cons rfl (.cons rfl .nil)))))) ?_
  first | refine c_cond rfl (fun hc1 => ?_) (fun hc1 => ?_) | refine c_condb rfl (fun hc1 => ?_) (fun hc1 => ?_)
  · skip
    refine c_seq ?_
    refine c_region ?_
    refine l_field fo62_1 rfl rfl rfl ?_
    refine l_store_blk hw4 .head (by repeat (first | exact .zero | apply SetAt.succ)) rfl tz3 rfl rfl (by first | rfl | assumption) (fun w5 hw5 => ?_)
    try clear hw4
    refine l_nil ?_
    refine e_then ?_
    refine c_keep [0, 2, 3, 6] (.cons rfl (.cons rfl (.cons rfl (.cons rfl .nil)))) ?_
    refine c_seq ?_
    refine c_region ?_
    refine l_load_agg hw5 mem0 rfl rfl Try.underlying62 rfl tz62 rfl (.take (.take (.take (.take (.take .nil))))) ?_
    refine l_move rfl rfl rfl ?_
    refine l_move rfl rfl rfl ?_
    refine l_add rfl rfl rfl rfl (w_i64 (by omega)) ?_
    refine l_move rfl rfl rfl ?_
    refine l_move rfl rfl rfl ?_
    refine l_add rfl rfl rfl rfl (w_i64 (by omega)) ?_
    refine l_move rfl rfl rfl ?_
    refine v_lenb rfl rfl Try.underlying22 rfl (by first | exact hw5.ibl mem0 | exact hw5.iarg hv | assumption) ?_
    refine l_eql rfl rfl rfl rfl ?_
    refine l_move rfl rfl rfl ?_
    apply l_and 6 [2, 3, 36, 39] rfl rfl (.cons rfl (.cons rfl (.cons rfl (.cons rfl (.cons rfl .nil))))) rfl rfl (fun _ => rfl) rfl rfl rfl
    · intro hg8_11
      refine l_move rfl rfl rfl ?_
      refine l_eql rfl rfl rfl rfl ?_
      refine l_move rfl rfl rfl ?_
      apply l_or 2 [2, 3, 36, 39, 46] rfl rfl (.cons rfl (.cons rfl (.cons rfl (.cons rfl (.cons rfl (.cons rfl .nil)))))) rfl rfl (fun _ => rfl) rfl rfl rfl
      · intro hg8_14
        refine l_move rfl rfl rfl ?_
        refine l_eql rfl rfl rfl rfl ?_
        refine l_nil ?_
        exact e_stays rfl (.cons rfl (congrArg Value.bool (decide_eq_false hg8_14).symm) (.cons rfl rfl (.cons rfl rfl (.cons rfl rfl (.cons rfl rfl (.cons rfl rfl .nil))))))
      refine l_nil ?_
      exact e_stays rfl (.cons rfl (congrArg Value.bool (decide_eq_true hg8_11).symm) (.cons rfl rfl (.cons rfl rfl (.cons rfl rfl (.cons rfl rfl .nil)))))
    refine l_store_blks hw5 .head (.zero (.zero (.zero (.zero (.zero .nil))))) rfl tz62 rfl rfl (by first | (simp [Value.oneCell']; done) | (intro u hu; simp only [List.mem_cons, List.not_mem_nil, or_false] at hu; rcases hu with rfl | rfl | rfl | rfl | rfl <;> first | rfl | assumption)) (fun w6 hw6 => ?_)
    try clear hw5
    refine l_assign rfl rfl rfl ?_
    refine l_assign rfl rfl rfl ?_
    refine l_nil ?_
    refine e_then ?_
    refine c_keep [2, 3, 4] (.cons rfl (.cons rfl (.cons rfl .nil))) ?_
    refine c_ret ?_
    refine e_then_ret ?_
    refine e_fj_ret ?_
    refine e_doneN Try.results44 (.cell rfl (load_agg_run hw6 mem0 Try.underlying62 rfl tz62 (.take (.take (.take (.take (.take .nil)))))) (.tmp rfl (.tmp rfl .nil))) rfl ?_
    refine ⟨_, rfl, ?_⟩
    have hw7 := St.del .head hw6
    try clear hw6
    exact ⟨_, _, _, _, _, _, _, _, _, rfl, .inf (by omega), hnil, hnil, hw7.grows⟩
  · skip
    refine c_skip ?_
    refine e_then ?_
    refine c_keep [0, 2, 3, 5] (.cons rfl (.cons rfl (.cons rfl (.cons rfl .nil)))) ?_
    refine c_seq ?_
    refine c_seq ?_
    refine c_region ?_
    refine l_move rfl rfl rfl ?_
    refine l_move rfl rfl rfl ?_
    refine v_cut (l := sg t 0) (h := t.length) rfl rfl Try.underlying22 tz5 rfl rfl rfl rfl hv (by first | rfl | (simp; done) | (simp; omega)) (by first | rfl | (simp; done) | (simp; omega)) (.inl rfl) (by simp) (by omega) (by first | omega | (simp; omega) | (simp; done)) (fun v9_2 h9_2 ho9_2 => ?_)
    rw [bys_cut, List.take_length] at h9_2
    refine l_call rfl rfl Try.func57 rfl rfl (.cons rfl (.cons rfl .nil)) (likeS _ (t.drop (sg t 0)) nanw (by rw [List.length_drop]; omega) (by decide) w4 (hw4.iarg h9_2)) ?_
    rintro _ w8 ⟨rfl, hG⟩
    have hw8 := hG _ _ _ _ hw4
    try clear hG hw4
    simp only [List.cons_append, List.nil_append] at hw8
    refine l_assign rfl rfl rfl ?_
    refine l_nil ?_
    refine e_then ?_
    refine c_keep [0, 2, 3, 5, 7] (.cons rfl (.cons rfl (.cons rfl (.cons rfl (.cons rfl .nil))))) ?_
    refine c_seq ?_
    refine c_region ?_
    have hl2 := like_le (t.drop (sg t 0)) nanw
    rw [List.length_drop] at hl2
    refine l_move rfl rfl rfl ?_
    refine l_gtr rfl rfl rfl rfl ?_
    refine l_nil ?_
    refine e_then ?_
    refine c_keep [0, 2, 3, 5, 7, 59] (.cons rfl (.cons rfl (.cons rfl (.cons rfl (.cons rfl (.cons rfl .nil)))))) ?_
    first | refine c_cond rfl (fun hc2 => ?_) (fun hc2 => ?_) | refine c_condb rfl (fun hc2 => ?_) (fun hc2 => ?_)
    · skip
      refine c_seq ?_
      refine c_region ?_
      refine l_field fo62_1 rfl rfl rfl ?_
      refine l_store_blk hw8 .head (by repeat (first | exact .zero | apply SetAt.succ)) rfl tz3 rfl rfl (by first | rfl | assumption) (fun w9 hw9 => ?_)
      try clear hw8
      refine l_nil ?_
      refine e_then ?_
      refine c_keep [0, 2, 3, 7] (.cons rfl (.cons rfl (.cons rfl (.cons rfl .nil)))) ?_
      refine c_seq ?_
      refine c_region ?_
      refine l_load_agg hw9 mem0 rfl rfl Try.underlying62 rfl tz62 rfl (.take (.take (.take (.take (.take .nil))))) ?_
      refine l_move rfl rfl rfl ?_
      refine l_move rfl rfl rfl ?_
      refine l_add rfl rfl rfl rfl (w_i64 (by omega)) ?_
      refine l_move rfl rfl rfl ?_
      refine l_move rfl rfl rfl ?_
      refine l_add rfl rfl rfl rfl (w_i64 (by omega)) ?_
      refine l_move rfl rfl rfl ?_
      refine v_lenb rfl rfl Try.underlying22 rfl (by first | exact hw9.ibl mem0 | exact hw9.iarg hv | assumption) ?_
      refine l_eql rfl rfl rfl rfl ?_
      refine l_move rfl rfl rfl ?_
      apply l_and 2 [2, 3, 61, 64] rfl rfl (.cons rfl (.cons rfl (.cons rfl (.cons rfl (.cons rfl .nil))))) rfl rfl (fun _ => rfl) rfl rfl rfl
      · intro hg12_11
        refine l_move rfl rfl rfl ?_
        refine l_eql rfl rfl rfl rfl ?_
        refine l_nil ?_
        exact e_stays rfl (.cons rfl (congrArg Value.bool (decide_eq_true hg12_11).symm) (.cons rfl rfl (.cons rfl rfl (.cons rfl rfl (.cons rfl rfl .nil)))))
      refine l_store_blks hw9 .head (.zero (.zero (.zero (.zero (.zero .nil))))) rfl tz62 rfl rfl (by first | (simp [Value.oneCell']; done) | (intro u hu; simp only [List.mem_cons, List.not_mem_nil, or_false] at hu; rcases hu with rfl | rfl | rfl | rfl | rfl <;> first | rfl | assumption)) (fun w10 hw10 => ?_)
      try clear hw9
      refine l_assign rfl rfl rfl ?_
      refine l_assign rfl rfl rfl ?_
      refine l_nil ?_
      refine e_then ?_
      refine c_keep [2, 3, 4] (.cons rfl (.cons rfl (.cons rfl .nil))) ?_
      refine c_ret ?_
      refine e_then_ret ?_
      refine e_fj_ret ?_
      refine e_doneN Try.results44 (.cell rfl (load_agg_run hw10 mem0 Try.underlying62 rfl tz62 (.take (.take (.take (.take (.take .nil)))))) (.tmp rfl (.tmp rfl .nil))) rfl ?_
      refine ⟨_, rfl, ?_⟩
      have hw11 := St.del .head hw10
      try clear hw10
      exact ⟨_, _, _, _, _, _, _, _, _, rfl, .nan (by omega) (by omega), hnil, hnil, hw11.grows⟩
    · skip
      refine c_skip ?_
      refine e_then ?_
      refine c_keep [0, 2, 3, 5] (.cons rfl (.cons rfl (.cons rfl (.cons rfl .nil)))) ?_
      refine c_seq ?_
      refine c_region ?_
      refine l_move rfl rfl rfl ?_
      refine l_move rfl rfl rfl ?_
      refine l_move rfl rfl rfl ?_
      refine l_callp rfl rfl Try.func45 rfl rfl (.cons rfl (.cons rfl .nil)) (run_dig v t (by omega) (sg t 0) (by omega) w8 (hw8.iarg hv)) ?_
      refine l_add rfl rfl rfl rfl (w_i64 (by omega)) ?_
      refine l_assign rfl rfl rfl ?_
      refine l_nil ?_
      refine e_then ?_
      refine c_keep [0, 2, 3, 5] (.cons rfl (.cons rfl (.cons rfl (.cons rfl .nil)))) ?_
      refine c_seq ?_
      refine c_region ?_
      obtain ⟨a1, ha1⟩ : ∃ a1 : Nat, a1 = sg t 0 + run (t.drop (sg t 0)) := ⟨_, rfl⟩
      refine l_turn (s := 3) (v' := .int .i64 (a1 : Int)) rfl (by rw [ha1, Int.natCast_add]) ?_
      refine l_move rfl rfl rfl ?_
      refine l_move rfl rfl rfl ?_
      refine l_move rfl rfl rfl ?_
      refine v_cut (l := sg t 0) (h := a1) rfl rfl Try.underlying22 tz5 rfl rfl rfl rfl hvr (by first | rfl | (simp; done) | (simp; omega)) (by first | rfl | (simp; done) | (simp; omega)) (.inl rfl) (by simp) (by omega) (by first | omega | (simp; omega) | (simp; done)) (fun v14_3 h14_3 ho14_3 => ?_)
      rw [bys_cut] at h14_3
      have hone1 := slice_one h14_3
      refine l_field fo62_2 rfl rfl rfl ?_
      refine l_store_blk hw8 .head (by repeat (first | exact .zero | apply SetAt.succ)) rfl tz22 rfl rfl (by first | rfl | assumption) (fun w12 hw12 => ?_)
      try clear hw8
      refine l_nil ?_
      refine e_then ?_
      refine c_keep [0, 2, 3] (.cons rfl (.cons rfl (.cons rfl .nil))) ?_
      refine c_seq ?_
      refine c_seq ?_
      refine c_region ?_
      refine l_move rfl rfl rfl ?_
      refine l_move rfl rfl rfl ?_
      refine v_lenb rfl rfl Try.underlying22 rfl (by first | exact hw12.ibl mem0 | exact hw12.iarg hv | assumption) ?_
      refine l_eql rfl rfl rfl rfl ?_
      refine l_move rfl rfl rfl ?_
      apply l_or 5 [0, 2, 3] rfl rfl (.cons rfl (.cons rfl (.cons rfl (.cons rfl .nil)))) rfl rfl (fun _ => rfl) rfl rfl rfl
      · intro hg15_5
        refine l_move rfl rfl rfl ?_
        refine l_move rfl rfl rfl ?_
        refine v_getbr (j := a1) rfl rfl rfl rfl Try.underlying22 tz5 Try.underlying5 rfl rfl (by first | exact hw12.ibl mem0 | exact hw12.iarg hv | assumption) rfl (by omega) (by omega) (fun hb15_7 => ?_)
        refine l_neq rfl rfl rfl rfl ?_
        refine l_nil ?_
        exact e_stays rfl (.cons rfl (congrArg Value.bool (decide_eq_false hg15_5).symm) (.cons rfl rfl (.cons rfl rfl (.cons rfl rfl .nil))))
      refine l_nil ?_
      refine e_then ?_
      refine c_keep [0, 2, 3, 95] (.cons rfl (.cons rfl (.cons rfl (.cons rfl .nil)))) ?_
      first | refine c_cond rfl (fun hc3 => ?_) (fun hc3 => ?_) | refine c_condb rfl (fun hc3 => ?_) (fun hc3 => ?_)
      · skip
        refine c_goto ?_
        refine e_then_goto ?_
        refine e_fj_goto (show _ = some _ from rfl) ?_
        refine c_keep [0, 2, 3] (.cons rfl (.cons rfl (.cons rfl .nil))) ?_
        refine c_seq ?_
        refine c_skip ?_
        refine e_then ?_
        refine c_seq ?_
        refine c_seq ?_
        refine c_region ?_
        obtain ⟨vf, hvfe⟩ : ∃ vf : Value, vf = .slice none 0 0 := ⟨_, rfl⟩
        obtain ⟨F, hFe⟩ : ∃ F : L8, F = [] := ⟨_, rfl⟩
        obtain ⟨a2, ha2⟩ : ∃ a2 : Nat, a2 = a1 := ⟨_, rfl⟩
        have hvf : IV wr vf (bys F) := by
          rw [hvfe, hFe]
          first | exact IV.nil wr | assumption
        have hfr : Fr t a1 F a2 := by
          rw [hFe, ha2]
          exact .no (fun h => by omega)
        have ha2l : a2 ≤ t.length := by omega
        have honef := slice_one hvf
        have hFl : F.length ≤ t.length := by
          rw [hFe]
          first | (rw [cut_len t (by omega)]; omega) | simp
        have hWl := cut_len t (l := sg t 0) (h := a1) (by omega)
        refine l_turn (s := 3) (v' := .int .i64 (a2 : Int)) rfl (by first | (rw [ha2]; done) | (rw [ha2]; simp only [Int.natCast_add]; done)) ?_
        have hw13 := hw12.cast (show _ = [As.blk b0_0 62 [.bool (ngb t), .int .i64 0, v14_3, vf, .int .i64 0]] from by rw [hvfe])
        try clear hw12
        refine l_field fo62_2 rfl rfl rfl ?_
        refine l_load_blk hw13 mem0 rfl rfl Try.underlying22 rfl rfl rfl ?_
        refine v_lenb rfl rfl Try.underlying22 rfl (by first | exact hw13.ibl mem0 | exact hw13.iarg hv | assumption) ?_
        refine l_field fo62_3 rfl rfl rfl ?_
        refine l_load_blk hw13 mem0 rfl rfl Try.underlying22 rfl rfl rfl ?_
        refine v_lenb rfl rfl Try.underlying22 rfl (by first | exact hw13.ibl mem0 | exact hw13.iarg hv | assumption) ?_
        refine l_add rfl rfl rfl rfl (w_i64 (by omega)) ?_
        refine l_eql rfl rfl rfl rfl ?_
        refine l_nil ?_
        refine e_then ?_
        refine c_keep [0, 2, 3, 116] (.cons rfl (.cons rfl (.cons rfl (.cons rfl .nil)))) ?_
        first | refine c_cond rfl (fun hc4 => ?_) (fun hc4 => ?_) | refine c_condb rfl (fun hc4 => ?_) (fun hc4 => ?_)
        · skip
          refine c_seq ?_
          refine c_region ?_
          refine l_load_agg hw13 mem0 rfl rfl Try.underlying62 rfl tz62 rfl (.take (.take (.take (.take (.take .nil))))) ?_
          refine l_move rfl rfl rfl ?_
          refine l_store_blks hw13 .head (.zero (.zero (.zero (.zero (.zero .nil))))) rfl tz62 rfl rfl (by first | (simp [Value.oneCell']; done) | (intro u hu; simp only [List.mem_cons, List.not_mem_nil, or_false] at hu; rcases hu with rfl | rfl | rfl | rfl | rfl <;> first | rfl | assumption)) (fun w14 hw14 => ?_)
          try clear hw13
          refine l_assign rfl rfl rfl ?_
          refine l_assign rfl rfl rfl ?_
          refine l_nil ?_
          refine e_then ?_
          refine c_keep [2, 3, 4] (.cons rfl (.cons rfl (.cons rfl .nil))) ?_
          refine c_ret ?_
          refine e_then_ret ?_
          refine e_fj_ret ?_
          refine e_doneN Try.results44 (.cell rfl (load_agg_run hw14 mem0 Try.underlying62 rfl tz62 (.take (.take (.take (.take (.take .nil)))))) (.tmp rfl (.tmp rfl .nil))) rfl ?_
          refine ⟨_, rfl, ?_⟩
          have hw15 := St.del .head hw14
          try clear hw14
          exact ⟨_, _, _, _, _, _, _, _, _, rfl, .none (by omega) (by omega) ha1 hfr (by omega), h14_3, hvf, hw15.grows⟩
        · skip
          refine c_skip ?_
          refine e_then ?_
          refine c_keep [0, 2, 3] (.cons rfl (.cons rfl (.cons rfl .nil))) ?_
          refine c_seq ?_
          refine c_seq ?_
          refine c_region ?_
          refine l_move rfl rfl rfl ?_
          refine l_move rfl rfl rfl ?_
          refine v_lenb rfl rfl Try.underlying22 rfl (by first | exact hw13.ibl mem0 | exact hw13.iarg hv | assumption) ?_
          refine l_eql rfl rfl rfl rfl ?_
          refine l_move rfl rfl rfl ?_
          apply l_or 6 [0, 2, 3] rfl rfl (.cons rfl (.cons rfl (.cons rfl (.cons rfl .nil)))) rfl rfl (fun _ => rfl) rfl rfl rfl
          · intro hg22_5
            refine l_move rfl rfl rfl ?_
            refine l_move rfl rfl rfl ?_
            refine v_getbr (j := a2) rfl rfl rfl rfl Try.underlying22 tz5 Try.underlying5 rfl rfl (by first | exact hw13.ibl mem0 | exact hw13.iarg hv | assumption) rfl (by omega) (by omega) (fun hb22_7 => ?_)
            refine l_bits rfl rfl rfl rfl rfl (or32 _) ?_
            refine l_neq rfl rfl rfl rfl ?_
            refine l_nil ?_
            exact e_stays rfl (.cons rfl (congrArg Value.bool (decide_eq_false hg22_5).symm) (.cons rfl rfl (.cons rfl rfl (.cons rfl rfl .nil))))
          refine l_nil ?_
          refine e_then ?_
          refine c_keep [0, 2, 3, 130] (.cons rfl (.cons rfl (.cons rfl (.cons rfl .nil)))) ?_
          first | refine c_cond rfl (fun hc5 => ?_) (fun hc5 => ?_) | refine c_condb rfl (fun hc5 => ?_) (fun hc5 => ?_)
          · skip
            refine c_goto ?_
            refine e_then_goto ?_
            refine e_fj_goto (show _ = some _ from rfl) ?_
            refine c_keep [0, 2, 3] (.cons rfl (.cons rfl (.cons rfl .nil))) ?_
            refine c_seq ?_
            refine c_skip ?_
            refine e_then ?_
            refine c_seq ?_
            refine c_region ?_
            refine l_load_agg hw13 mem0 rfl rfl Try.underlying62 rfl tz62 rfl (.take (.take (.take (.take (.take .nil))))) ?_
            refine l_move rfl rfl rfl ?_
            refine l_move rfl rfl rfl ?_
            refine l_move rfl rfl rfl ?_
            refine v_lenb rfl rfl Try.underlying22 rfl (by first | exact hw13.ibl mem0 | exact hw13.iarg hv | assumption) ?_
            refine l_eql rfl rfl rfl rfl ?_
            refine l_store_blks hw13 .head (.zero (.zero (.zero (.zero (.zero .nil))))) rfl tz62 rfl rfl (by first | (simp [Value.oneCell']; done) | (intro u hu; simp only [List.mem_cons, List.not_mem_nil, or_false] at hu; rcases hu with rfl | rfl | rfl | rfl | rfl <;> first | rfl | assumption)) (fun w16 hw16 => ?_)
            try clear hw13
            refine l_assign rfl rfl rfl ?_
            refine l_assign rfl rfl rfl ?_
            refine l_nil ?_
            refine e_then ?_
            refine c_keep [2, 3, 4] (.cons rfl (.cons rfl (.cons rfl .nil))) ?_
            refine c_ret ?_
            refine e_fj_ret ?_
            refine e_doneN Try.results44 (.cell rfl (load_agg_run hw16 mem0 Try.underlying62 rfl tz62 (.take (.take (.take (.take (.take .nil)))))) (.tmp rfl (.tmp rfl .nil))) rfl ?_
            refine ⟨_, rfl, ?_⟩
            have hw17 := St.del .head hw16
            try clear hw16
            first | exact ⟨_, _, _, _, _, _, _, _, _, rfl, .exp (by omega) (by omega) ha1 hfr (by omega) (by omega) (show ((t.getD a2 0 ||| 32).toNat : Int) = 101 by omega) ha4 hjr (by omega) (by first | rw [if_pos (by assumption), ← hx] | rw [if_neg (by assumption), ← hx]), h14_3, hvf, hw17.grows⟩ | exact ⟨_, _, _, _, _, _, _, _, _, rfl, .plain (by omega) (by omega) ha1 hfr (by omega) (fun h => show ¬ ((t.getD a2 0 ||| 32).toNat : Int) = 101 by omega), h14_3, hvf, hw17.grows⟩
          · skip
            refine c_skip ?_
            refine e_then ?_
            refine c_keep [0, 2, 3] (.cons rfl (.cons rfl (.cons rfl .nil))) ?_
            refine c_seq ?_
            refine c_region ?_
            refine l_move rfl rfl rfl ?_
            refine l_add rfl rfl rfl rfl (w_i64 (by omega)) ?_
            refine l_assign rfl rfl rfl ?_
            refine l_nil ?_
            refine e_then ?_
            refine c_keep [0, 2, 3] (.cons rfl (.cons rfl (.cons rfl .nil))) ?_
            refine c_seq ?_
            refine c_region ?_
            refine l_move rfl rfl rfl ?_
            refine l_assign rfl rfl rfl ?_
            refine l_nil ?_
            refine e_then ?_
            refine c_keep [0, 2, 3, 5] (.cons rfl (.cons rfl (.cons rfl (.cons rfl .nil)))) ?_
            refine c_cutk (ι := Nat) (fun (a4 : Nat) (w' : World) => St w w.heap.size None' ([As.blk b0_0 62 [.bool (ngb t), .int .i64 0, v14_3, vf, .int .i64 0]]) w' ∧ a4 = sg t (a2 + 1)) (fun (a4 : Nat) => [(3, .int .i64 (a4 : Int))]) [0, 2, 5] (.cons rfl (.cons rfl (.cons rfl .nil))) ?_ ?_
            · skip
              refine c_seq ?_
              refine c_region ?_
              refine l_move rfl rfl rfl ?_
              refine l_move rfl rfl rfl ?_
              refine v_lenb rfl rfl Try.underlying22 rfl (by first | exact hw13.ibl mem0 | exact hw13.iarg hv | assumption) ?_
              refine l_lss rfl rfl rfl rfl ?_
              refine l_move rfl rfl rfl ?_
              apply l_and 12 [0, 2, 3, 5] rfl rfl (.cons rfl (.cons rfl (.cons rfl (.cons rfl (.cons rfl .nil))))) rfl rfl (fun _ => rfl) rfl rfl rfl
              · intro hg25_5
                refine l_move rfl rfl rfl ?_
                refine l_move rfl rfl rfl ?_
                refine v_getbr (j := a2 + 1) rfl rfl rfl rfl Try.underlying22 tz5 Try.underlying5 rfl rfl (by first | exact hw13.ibl mem0 | exact hw13.iarg hv | assumption) rfl (by omega) (by omega) (fun hb25_7 => ?_)
                refine l_eql rfl rfl rfl rfl ?_
                refine l_move rfl rfl rfl ?_
                apply l_or 5 [0, 2, 3, 5, 138] rfl rfl (.cons rfl (.cons rfl (.cons rfl (.cons rfl (.cons rfl (.cons rfl .nil)))))) rfl rfl (fun _ => rfl) rfl rfl rfl
                · intro hg25_11
                  refine l_move rfl rfl rfl ?_
                  refine l_move rfl rfl rfl ?_
                  refine v_getbr (j := a2 + 1) rfl rfl rfl rfl Try.underlying22 tz5 Try.underlying5 rfl rfl (by first | exact hw13.ibl mem0 | exact hw13.iarg hv | assumption) rfl (by omega) (by omega) (fun hb25_13 => ?_)
                  refine l_eql rfl rfl rfl rfl ?_
                  refine l_nil ?_
                  exact e_stays rfl (.cons rfl (congrArg Value.bool (decide_eq_false hg25_11).symm) (.cons rfl rfl (.cons rfl rfl (.cons rfl rfl (.cons rfl rfl (.cons rfl rfl .nil))))))
                refine l_nil ?_
                exact e_stays rfl (.cons rfl (congrArg Value.bool (decide_eq_true hg25_5).symm) (.cons rfl rfl (.cons rfl rfl (.cons rfl rfl (.cons rfl rfl .nil)))))
              refine l_nil ?_
              refine e_then ?_
              refine c_keep [0, 2, 3, 5, 151] (.cons rfl (.cons rfl (.cons rfl (.cons rfl (.cons rfl .nil))))) ?_
              first | refine c_cond rfl (fun hc6 => ?_) (fun hc6 => ?_) | refine c_condb rfl (fun hc6 => ?_) (fun hc6 => ?_)
              · skip
                refine c_region ?_
                refine l_move rfl rfl rfl ?_
                refine l_add rfl rfl rfl rfl (w_i64 (by omega)) ?_
                refine l_assign rfl rfl rfl ?_
                refine l_nil ?_
                refine e_meetk (a2 + 1 + 1) ?_ (.cons rfl (.cons rfl (.cons rfl .nil))) ?_
                · exact ⟨hw13, (sg_yes (by omega) (And.right (by first | exact hc6 | exact hc12))).symm⟩
                · exact (.cons rfl (by first | rfl | (refine congrArg (Value.int _) ?_; omega)) .nil)
              · skip
                refine c_skip ?_
                refine e_meetk (a2 + 1) ?_ (.cons rfl (.cons rfl (.cons rfl .nil))) ?_
                · exact ⟨hw13, (sg_no (fun h => absurd (show (((a2 : Int) + 1 < (t.length : Int)) ∧ (((t.getD (a2 + 1) 0).toNat : Int) = 43 ∨ ((t.getD (a2 + 1) 0).toNat : Int) = 45)) from ⟨by omega, h.2⟩) (by first | exact hc6 | exact hc12))).symm⟩
                · exact (.cons rfl (by first | rfl | (refine congrArg (Value.int _) ?_; omega)) .nil)
            rintro a4 w18 ⟨hw18, ha4⟩
            show RunC P _ _ _ (_ :: _) _
            refine c_seq ?_
            refine c_seq ?_
            refine c_region ?_
            have hs4 := sg_le t (i := a2 + 1) (by omega)
            have hr4 := run_drop_le t a4 (by omega)
            refine l_move rfl rfl rfl ?_
            refine l_move rfl rfl rfl ?_
            refine l_callp rfl rfl Try.func45 rfl rfl (.cons rfl (.cons rfl .nil)) (run_dig v t (by omega) a4 (by omega) w18 (hw18.iarg hv)) ?_
            refine l_eql rfl rfl rfl rfl ?_
            refine l_nil ?_
            refine e_then ?_
            refine c_keep [0, 2, 3, 5, 157] (.cons rfl (.cons rfl (.cons rfl (.cons rfl (.cons rfl .nil))))) ?_
            first | refine c_cond rfl (fun hc7 => ?_) (fun hc7 => ?_) | refine c_condb rfl (fun hc7 => ?_) (fun hc7 => ?_)
            · skip
              refine c_seq ?_
              refine c_region ?_
              refine l_load_agg hw18 mem0 rfl rfl Try.underlying62 rfl tz62 rfl (.take (.take (.take (.take (.take .nil))))) ?_
              refine l_move rfl rfl rfl ?_
              refine l_store_blks hw18 .head (.zero (.zero (.zero (.zero (.zero .nil))))) rfl tz62 rfl rfl (by first | (simp [Value.oneCell']; done) | (intro u hu; simp only [List.mem_cons, List.not_mem_nil, or_false] at hu; rcases hu with rfl | rfl | rfl | rfl | rfl <;> first | rfl | assumption)) (fun w19 hw19 => ?_)
              try clear hw18
              refine l_assign rfl rfl rfl ?_
              refine l_assign rfl rfl rfl ?_
              refine l_nil ?_
              refine e_then ?_
              refine c_keep [2, 3, 4] (.cons rfl (.cons rfl (.cons rfl .nil))) ?_
              refine c_ret ?_
              refine e_then_ret ?_
              refine e_fj_ret ?_
              refine e_doneN Try.results44 (.cell rfl (load_agg_run hw19 mem0 Try.underlying62 rfl tz62 (.take (.take (.take (.take (.take .nil)))))) (.tmp rfl (.tmp rfl .nil))) rfl ?_
              refine ⟨_, rfl, ?_⟩
              have hw20 := St.del .head hw19
              try clear hw19
              exact ⟨_, _, _, _, _, _, _, _, _, rfl, .bad (by omega) (by omega) ha1 hfr (by omega) (by omega) (show ((t.getD a2 0 ||| 32).toNat : Int) = 101 by omega) ha4 (by omega), h14_3, hvf, hw20.grows⟩
            · skip
              refine c_skip ?_
              refine e_then ?_
              refine c_keep [0, 2, 3, 5] (.cons rfl (.cons rfl (.cons rfl (.cons rfl .nil)))) ?_
              refine c_seq ?_
              refine c_block ?_
              refine c_loopk (ι := Nat × Int) (fun (z0 : Nat × Int) => match z0 with | ⟨j, x⟩ => t.length - j) (fun (z0 : Nat × Int) (w' : World) => match z0 with | ⟨j, x⟩ => St w w.heap.size None' ([As.blk b0_0 62 [.bool (ngb t), .int .i64 0, v14_3, vf, .int .i64 x]]) w' ∧ a4 + j ≤ t.length ∧ (∀ i, i < j → isD (t.getD (a4 + i) 0)) ∧ x = expo ((t.drop a4).take j) ∧ 0 ≤ x ∧ x ≤ 99999) (fun (z0 : Nat × Int) => match z0 with | ⟨j, x⟩ => [(3, .int .i64 ((a4 + j : Nat) : Int))]) [0, 2, 5] (0, 0) ?_ (.cons rfl (.cons rfl (.cons rfl .nil))) ?_ ?_
              · exact ⟨hw18, by omega, fun i hi => by omega, rfl, by omega, by omega⟩
              · exact (.cons rfl (by first | rfl | (refine congrArg (Value.int _) ?_; omega)) .nil)
              rintro ⟨j, x⟩ w21 ⟨hw21, hj, hdg, hx, hx0, hx9⟩
              show RunC P _ _ _ (_ :: _) _
              refine c_seq ?_
              refine c_seq ?_
              refine c_region ?_
              refine l_move rfl rfl rfl ?_
              refine l_move rfl rfl rfl ?_
              refine v_lenb rfl rfl Try.underlying22 rfl (by first | exact hw21.ibl mem0 | exact hw21.iarg hv | assumption) ?_
              refine l_lss rfl rfl rfl rfl ?_
              refine l_move rfl rfl rfl ?_
              apply l_and 5 [0, 2, 3, 5] rfl rfl (.cons rfl (.cons rfl (.cons rfl (.cons rfl (.cons rfl .nil))))) rfl rfl (fun _ => rfl) rfl rfl rfl
              · intro hg29_5
                refine l_move rfl rfl rfl ?_
                refine l_move rfl rfl rfl ?_
                refine v_getbr (j := a4 + j) rfl rfl rfl rfl Try.underlying22 tz5 Try.underlying5 rfl rfl (by first | exact hw21.ibl mem0 | exact hw21.iarg hv | assumption) rfl (by omega) (by omega) (fun hb29_7 => ?_)
                refine l_callp rfl rfl Try.func58 rfl rfl (.cons rfl .nil) (is_digit _ _) ?_
                refine l_nil ?_
                exact e_stays rfl (.cons rfl (congrArg Value.bool (decide_eq_true hg29_5).symm) (.cons rfl rfl (.cons rfl rfl (.cons rfl rfl (.cons rfl rfl .nil)))))
              refine l_nil ?_
              refine e_then ?_
              refine c_keep [0, 2, 3, 5, 170] (.cons rfl (.cons rfl (.cons rfl (.cons rfl (.cons rfl .nil))))) ?_
              first | refine c_cond rfl (fun hc8 => ?_) (fun hc8 => ?_) | refine c_condb rfl (fun hc8 => ?_) (fun hc8 => ?_)
              · skip
                refine c_skip ?_
                refine e_then ?_
                refine c_keep [0, 2, 3, 5] (.cons rfl (.cons rfl (.cons rfl (.cons rfl .nil)))) ?_
                refine c_seq ?_
                refine c_block ?_
                refine c_tail 12 (by kernel_rfl) (by kernel_rfl) ?_
                have hw22 := hw21.drewn
                try clear hw21
                have hd48 : isD (t.getD (a4 + j) 0) := (And.right (by first | exact hc8 | exact hc14))
                have hd49 := hd48
                unfold isD at hd49
                refine l_field fo62_4 rfl rfl rfl ?_
                refine l_load_blk hw22 mem0 rfl rfl Try.underlying3 rfl rfl rfl ?_
                refine l_mul rfl rfl rfl rfl (w_i64 (by omega)) ?_
                refine l_move rfl rfl rfl ?_
                refine l_move rfl rfl rfl ?_
                refine v_getbr (j := a4 + j) rfl rfl rfl rfl Try.underlying22 tz5 Try.underlying5 rfl rfl (by first | exact hw22.ibl mem0 | exact hw22.iarg hv | assumption) rfl (by omega) (by omega) (fun hb31_5 => ?_)
                refine l_sub rfl rfl rfl rfl (w_u8 (by omega)) ?_
                refine l_conv rfl rfl Try.underlying5 Try.underlying3 rfl (w_i64 (by omega)) ?_
                refine l_add rfl rfl rfl rfl (w_i64 (by omega)) ?_
                refine l_min rfl rfl rfl rfl ?_
                refine l_field fo62_4 rfl rfl rfl ?_
                refine l_nil ?_
                refine e_tail ?_
                refine l_store_blk hw22 .head (by repeat (first | exact .zero | apply SetAt.succ)) rfl tz3 rfl rfl (by first | rfl | assumption) (fun w23 hw23 => ?_)
                try clear hw22
                refine l_nil ?_
                refine e_blk ?_
                refine e_then ?_
                refine c_keep [0, 2, 3, 5] (.cons rfl (.cons rfl (.cons rfl (.cons rfl .nil)))) ?_
                refine c_region ?_
                refine l_move rfl rfl rfl ?_
                refine l_add rfl rfl rfl rfl (w_i64 (by omega)) ?_
                refine l_assign rfl rfl rfl ?_
                refine l_nil ?_
                refine e_againk (i := (j, x)) (j + 1, min (10 * x + (((t.getD (a4 + j) 0).toNat : Int) - 48)) 99999) ?_ ?_ (.cons rfl (.cons rfl (.cons rfl .nil))) ?_
                · first | omega | (simp; omega)
                · refine ⟨hw23, by omega, fun i hi => ?_, ?_, by omega, by omega⟩
                  · rcases Nat.lt_or_ge i j with h | h
                    · exact hdg i h
                    · obtain rfl : i = j := by omega
                      exact hd48
                  · rw [take_snoc_drop t (by omega), expo_snoc, ← hx]
                · exact (.cons rfl (by first | rfl | (refine congrArg (Value.int _) ?_; omega)) .nil)
              · skip
                refine c_exit ?_
                refine e_then_exit ?_
                refine e_then_exit ?_
                refine e_blk_exit ?_
                refine e_then ?_
                refine c_keep [0, 2, 3, 5] (.cons rfl (.cons rfl (.cons rfl (.cons rfl .nil)))) ?_
                refine c_seq ?_
                refine c_seq ?_
                refine c_region ?_
                have hjr : j = run (t.drop a4) := (run_eqn t a4 j (by omega) hdg hj (fun h hh => absurd (show (((a4 + j : Nat) : Int) < (t.length : Int)) ∧ isD (t.getD (a4 + j) 0) from ⟨by omega, hh⟩) (by first | exact hc8 | exact hc14))).symm
                refine l_move rfl rfl rfl ?_
                refine l_move rfl rfl rfl ?_
                refine v_getbr (j := a2 + 1) rfl rfl rfl rfl Try.underlying22 tz5 Try.underlying5 rfl rfl (by first | exact hw21.ibl mem0 | exact hw21.iarg hv | assumption) rfl (by omega) (by omega) (fun hb32_2 => ?_)
                refine l_eql rfl rfl rfl rfl ?_
                refine l_nil ?_
                refine e_then ?_
                refine c_keep [0, 2, 3, 189] (.cons rfl (.cons rfl (.cons rfl (.cons rfl .nil)))) ?_
                first | refine c_cond rfl (fun hc9 => ?_) (fun hc9 => ?_) | refine c_condb rfl (fun hc9 => ?_) (fun hc9 => ?_)
                · skip
                  refine c_region ?_
                  refine l_field fo62_4 rfl rfl rfl ?_
                  refine l_load_blk hw21 mem0 rfl rfl Try.underlying3 rfl rfl rfl ?_
                  refine l_neg rfl rfl rfl (w_i64 (by omega)) ?_
                  refine l_field fo62_4 rfl rfl rfl ?_
                  refine l_store_blk hw21 .head (by repeat (first | exact .zero | apply SetAt.succ)) rfl tz3 rfl rfl (by first | rfl | assumption) (fun w24 hw24 => ?_)
                  try clear hw21
                  refine l_nil ?_
                  refine e_then ?_
                  refine c_keep [0, 2, 3] (.cons rfl (.cons rfl (.cons rfl .nil))) ?_
                  refine c_seq ?_
                  refine c_label ?_
                  refine e_then ?_
                  refine c_seq ?_
                  refine c_region ?_
                  refine l_load_agg hw24 mem0 rfl rfl Try.underlying62 rfl tz62 rfl (.take (.take (.take (.take (.take .nil))))) ?_
                  refine l_move rfl rfl rfl ?_
                  refine l_move rfl rfl rfl ?_
                  refine l_move rfl rfl rfl ?_
                  refine v_lenb rfl rfl Try.underlying22 rfl (by first | exact hw24.ibl mem0 | exact hw24.iarg hv | assumption) ?_
                  refine l_eql rfl rfl rfl rfl ?_
                  refine l_store_blks hw24 .head (.zero (.zero (.zero (.zero (.zero .nil))))) rfl tz62 rfl rfl (by first | (simp [Value.oneCell']; done) | (intro u hu; simp only [List.mem_cons, List.not_mem_nil, or_false] at hu; rcases hu with rfl | rfl | rfl | rfl | rfl <;> first | rfl | assumption)) (fun w25 hw25 => ?_)
                  try clear hw24
                  refine l_assign rfl rfl rfl ?_
                  refine l_assign rfl rfl rfl ?_
                  refine l_nil ?_
                  refine e_then ?_
                  refine c_keep [2, 3, 4] (.cons rfl (.cons rfl (.cons rfl .nil))) ?_
                  refine c_ret ?_
                  refine e_fj_ret ?_
                  refine e_doneN Try.results44 (.cell rfl (load_agg_run hw25 mem0 Try.underlying62 rfl tz62 (.take (.take (.take (.take (.take .nil)))))) (.tmp rfl (.tmp rfl .nil))) rfl ?_
                  refine ⟨_, rfl, ?_⟩
                  have hw26 := St.del .head hw25
                  try clear hw25
                  first | exact ⟨_, _, _, _, _, _, _, _, _, rfl, .exp (by omega) (by omega) ha1 hfr (by omega) (by omega) (show ((t.getD a2 0 ||| 32).toNat : Int) = 101 by omega) ha4 hjr (by omega) (by first | rw [if_pos (by assumption), ← hx] | rw [if_neg (by assumption), ← hx]), h14_3, hvf, hw26.grows⟩ | exact ⟨_, _, _, _, _, _, _, _, _, rfl, .plain (by omega) (by omega) ha1 hfr (by omega) (fun h => show ¬ ((t.getD a2 0 ||| 32).toNat : Int) = 101 by omega), h14_3, hvf, hw26.grows⟩
                · skip
                  refine c_skip ?_
                  refine e_then ?_
                  refine c_keep [0, 2, 3] (.cons rfl (.cons rfl (.cons rfl .nil))) ?_
                  refine c_seq ?_
                  refine c_label ?_
                  refine e_then ?_
                  refine c_seq ?_
                  refine c_region ?_
                  refine l_load_agg hw21 mem0 rfl rfl Try.underlying62 rfl tz62 rfl (.take (.take (.take (.take (.take .nil))))) ?_
                  refine l_move rfl rfl rfl ?_
                  refine l_move rfl rfl rfl ?_
                  refine l_move rfl rfl rfl ?_
                  refine v_lenb rfl rfl Try.underlying22 rfl (by first | exact hw21.ibl mem0 | exact hw21.iarg hv | assumption) ?_
                  refine l_eql rfl rfl rfl rfl ?_
                  refine l_store_blks hw21 .head (.zero (.zero (.zero (.zero (.zero .nil))))) rfl tz62 rfl rfl (by first | (simp [Value.oneCell']; done) | (intro u hu; simp only [List.mem_cons, List.not_mem_nil, or_false] at hu; rcases hu with rfl | rfl | rfl | rfl | rfl <;> first | rfl | assumption)) (fun w27 hw27 => ?_)
                  try clear hw21
                  refine l_assign rfl rfl rfl ?_
                  refine l_assign rfl rfl rfl ?_
                  refine l_nil ?_
                  refine e_then ?_
                  refine c_keep [2, 3, 4] (.cons rfl (.cons rfl (.cons rfl .nil))) ?_
                  refine c_ret ?_
                  refine e_fj_ret ?_
                  refine e_doneN Try.results44 (.cell rfl (load_agg_run hw27 mem0 Try.underlying62 rfl tz62 (.take (.take (.take (.take (.take .nil)))))) (.tmp rfl (.tmp rfl .nil))) rfl ?_
                  refine ⟨_, rfl, ?_⟩
                  have hw28 := St.del .head hw27
                  try clear hw27
                  first | exact ⟨_, _, _, _, _, _, _, _, _, rfl, .exp (by omega) (by omega) ha1 hfr (by omega) (by omega) (show ((t.getD a2 0 ||| 32).toNat : Int) = 101 by omega) ha4 hjr (by omega) (by first | rw [if_pos (by assumption), ← hx] | rw [if_neg (by assumption), ← hx]), h14_3, hvf, hw28.grows⟩ | exact ⟨_, _, _, _, _, _, _, _, _, rfl, .plain (by omega) (by omega) ha1 hfr (by omega) (fun h => show ¬ ((t.getD a2 0 ||| 32).toNat : Int) = 101 by omega), h14_3, hvf, hw28.grows⟩
      · skip
        refine c_skip ?_
        refine e_then ?_
        refine c_keep [0, 2, 3] (.cons rfl (.cons rfl (.cons rfl .nil))) ?_
        refine c_seq ?_
        refine c_region ?_
        refine l_move rfl rfl rfl ?_
        refine l_add rfl rfl rfl rfl (w_i64 (by omega)) ?_
        refine l_assign rfl rfl rfl ?_
        refine l_nil ?_
        refine e_then ?_
        refine c_keep [0, 2, 3] (.cons rfl (.cons rfl (.cons rfl .nil))) ?_
        refine c_seq ?_
        refine c_region ?_
        refine l_turn (s := 3) (v' := .int .i64 ((a1 + 1 : Nat) : Int)) rfl (by simp only [Int.natCast_add]; rfl) ?_
        have hr1 := run_drop_le t (a1 + 1) (by omega)
        refine l_move rfl rfl rfl ?_
        refine l_assign rfl rfl rfl ?_
        refine l_nil ?_
        refine e_then ?_
        refine c_keep [0, 2, 3, 5] (.cons rfl (.cons rfl (.cons rfl (.cons rfl .nil)))) ?_
        refine c_seq ?_
        refine c_region ?_
        refine l_move rfl rfl rfl ?_
        refine l_move rfl rfl rfl ?_
        refine l_move rfl rfl rfl ?_
        refine l_callp rfl rfl Try.func45 rfl rfl (.cons rfl (.cons rfl .nil)) (run_dig v t (by omega) (a1 + 1) (by omega) w12 (hw12.iarg hv)) ?_
        refine l_add rfl rfl rfl rfl (w_i64 (by omega)) ?_
        refine l_assign rfl rfl rfl ?_
        refine l_nil ?_
        refine e_then ?_
        refine c_keep [0, 2, 3, 5] (.cons rfl (.cons rfl (.cons rfl (.cons rfl .nil)))) ?_
        refine c_seq ?_
        refine c_region ?_
        refine l_move rfl rfl rfl ?_
        refine l_move rfl rfl rfl ?_
        refine l_move rfl rfl rfl ?_
        refine v_cut (l := a1 + 1) (h := a1 + 1 + run (t.drop (a1 + 1))) rfl rfl Try.underlying22 tz5 rfl rfl rfl rfl hvr (by first | rfl | (simp; done) | (simp; omega)) (by first | rfl | (simp; done) | (simp; omega)) (.inl rfl) (by simp) (by omega) (by first | omega | (simp; omega) | (simp; done)) (fun v19_3 h19_3 ho19_3 => ?_)
        rw [bys_cut] at h19_3
        have hone2 := slice_one h19_3
        refine l_field fo62_3 rfl rfl rfl ?_
        refine l_store_blk hw12 .head (by repeat (first | exact .zero | apply SetAt.succ)) rfl tz22 rfl rfl (by first | rfl | assumption) (fun w29 hw29 => ?_)
        try clear hw12
        refine l_nil ?_
        refine e_then ?_
        refine c_keep [0, 2, 3] (.cons rfl (.cons rfl (.cons rfl .nil))) ?_
        refine c_seq ?_
        refine c_label ?_
        refine e_then ?_
        refine c_seq ?_
        refine c_seq ?_
        refine c_region ?_
        obtain ⟨vf, hvfe⟩ : ∃ vf : Value, vf = v19_3 := ⟨_, rfl⟩
        obtain ⟨F, hFe⟩ : ∃ F : L8, F = (t.take (a1 + 1 + run (t.drop (a1 + 1)))).drop (a1 + 1) := ⟨_, rfl⟩
        obtain ⟨a2, ha2⟩ : ∃ a2 : Nat, a2 = a1 + 1 + run (t.drop (a1 + 1)) := ⟨_, rfl⟩
        have hvf : IV wr vf (bys F) := by
          rw [hvfe, hFe]
          first | exact IV.nil wr | assumption
        have hfr : Fr t a1 F a2 := by
          rw [hFe, ha2]
          exact .yes (by omega) (by omega)
        have ha2l : a2 ≤ t.length := by omega
        have honef := slice_one hvf
        have hFl : F.length ≤ t.length := by
          rw [hFe]
          first | (rw [cut_len t (by omega)]; omega) | simp
        have hWl := cut_len t (l := sg t 0) (h := a1) (by omega)
        refine l_turn (s := 3) (v' := .int .i64 (a2 : Int)) rfl (by first | (rw [ha2]; done) | (rw [ha2]; simp only [Int.natCast_add]; done)) ?_
        have hw30 := hw29.cast (show _ = [As.blk b0_0 62 [.bool (ngb t), .int .i64 0, v14_3, vf, .int .i64 0]] from by rw [hvfe])
        try clear hw29
        refine l_field fo62_2 rfl rfl rfl ?_
        refine l_load_blk hw30 mem0 rfl rfl Try.underlying22 rfl rfl rfl ?_
        refine v_lenb rfl rfl Try.underlying22 rfl (by first | exact hw30.ibl mem0 | exact hw30.iarg hv | assumption) ?_
        refine l_field fo62_3 rfl rfl rfl ?_
        refine l_load_blk hw30 mem0 rfl rfl Try.underlying22 rfl rfl rfl ?_
        refine v_lenb rfl rfl Try.underlying22 rfl (by first | exact hw30.ibl mem0 | exact hw30.iarg hv | assumption) ?_
        refine l_add rfl rfl rfl rfl (w_i64 (by omega)) ?_
        refine l_eql rfl rfl rfl rfl ?_
        refine l_nil ?_
        refine e_then ?_
        refine c_keep [0, 2, 3, 116] (.cons rfl (.cons rfl (.cons rfl (.cons rfl .nil)))) ?_
        first | refine c_cond rfl (fun hc10 => ?_) (fun hc10 => ?_) | refine c_condb rfl (fun hc10 => ?_) (fun hc10 => ?_)
        · skip
          refine c_seq ?_
          refine c_region ?_
          refine l_load_agg hw30 mem0 rfl rfl Try.underlying62 rfl tz62 rfl (.take (.take (.take (.take (.take .nil))))) ?_
          refine l_move rfl rfl rfl ?_
          refine l_store_blks hw30 .head (.zero (.zero (.zero (.zero (.zero .nil))))) rfl tz62 rfl rfl (by first | (simp [Value.oneCell']; done) | (intro u hu; simp only [List.mem_cons, List.not_mem_nil, or_false] at hu; rcases hu with rfl | rfl | rfl | rfl | rfl <;> first | rfl | assumption)) (fun w31 hw31 => ?_)
          try clear hw30
          refine l_assign rfl rfl rfl ?_
          refine l_assign rfl rfl rfl ?_
          refine l_nil ?_
          refine e_then ?_
          refine c_keep [2, 3, 4] (.cons rfl (.cons rfl (.cons rfl .nil))) ?_
          refine c_ret ?_
          refine e_then_ret ?_
          refine e_fj_ret ?_
          refine e_doneN Try.results44 (.cell rfl (load_agg_run hw31 mem0 Try.underlying62 rfl tz62 (.take (.take (.take (.take (.take .nil)))))) (.tmp rfl (.tmp rfl .nil))) rfl ?_
          refine ⟨_, rfl, ?_⟩
          have hw32 := St.del .head hw31
          try clear hw31
          exact ⟨_, _, _, _, _, _, _, _, _, rfl, .none (by omega) (by omega) ha1 hfr (by omega), h14_3, hvf, hw32.grows⟩
        · skip
          refine c_skip ?_
          refine e_then ?_
          refine c_keep [0, 2, 3] (.cons rfl (.cons rfl (.cons rfl .nil))) ?_
          refine c_seq ?_
          refine c_seq ?_
          refine c_region ?_
          refine l_move rfl rfl rfl ?_
          refine l_move rfl rfl rfl ?_
          refine v_lenb rfl rfl Try.underlying22 rfl (by first | exact hw30.ibl mem0 | exact hw30.iarg hv | assumption) ?_
          refine l_eql rfl rfl rfl rfl ?_
          refine l_move rfl rfl rfl ?_
          apply l_or 6 [0, 2, 3] rfl rfl (.cons rfl (.cons rfl (.cons rfl (.cons rfl .nil)))) rfl rfl (fun _ => rfl) rfl rfl rfl
          · intro hg22_5
            refine l_move rfl rfl rfl ?_
            refine l_move rfl rfl rfl ?_
            refine v_getbr (j := a2) rfl rfl rfl rfl Try.underlying22 tz5 Try.underlying5 rfl rfl (by first | exact hw30.ibl mem0 | exact hw30.iarg hv | assumption) rfl (by omega) (by omega) (fun hb22_7 => ?_)
            refine l_bits rfl rfl rfl rfl rfl (or32 _) ?_
            refine l_neq rfl rfl rfl rfl ?_
            refine l_nil ?_
            exact e_stays rfl (.cons rfl (congrArg Value.bool (decide_eq_false hg22_5).symm) (.cons rfl rfl (.cons rfl rfl (.cons rfl rfl .nil))))
          refine l_nil ?_
          refine e_then ?_
          refine c_keep [0, 2, 3, 130] (.cons rfl (.cons rfl (.cons rfl (.cons rfl .nil)))) ?_
          first | refine c_cond rfl (fun hc11 => ?_) (fun hc11 => ?_) | refine c_condb rfl (fun hc11 => ?_) (fun hc11 => ?_)
          · skip
            refine c_goto ?_
            refine e_then_goto ?_
            refine e_fj_goto (show _ = some _ from rfl) ?_
            refine c_keep [0, 2, 3] (.cons rfl (.cons rfl (.cons rfl .nil))) ?_
            refine c_seq ?_
            refine c_skip ?_
            refine e_then ?_
            refine c_seq ?_
            refine c_region ?_
            refine l_load_agg hw30 mem0 rfl rfl Try.underlying62 rfl tz62 rfl (.take (.take (.take (.take (.take .nil))))) ?_
            refine l_move rfl rfl rfl ?_
            refine l_move rfl rfl rfl ?_
            refine l_move rfl rfl rfl ?_
            refine v_lenb rfl rfl Try.underlying22 rfl (by first | exact hw30.ibl mem0 | exact hw30.iarg hv | assumption) ?_
            refine l_eql rfl rfl rfl rfl ?_
            refine l_store_blks hw30 .head (.zero (.zero (.zero (.zero (.zero .nil))))) rfl tz62 rfl rfl (by first | (simp [Value.oneCell']; done) | (intro u hu; simp only [List.mem_cons, List.not_mem_nil, or_false] at hu; rcases hu with rfl | rfl | rfl | rfl | rfl <;> first | rfl | assumption)) (fun w33 hw33 => ?_)
            try clear hw30
            refine l_assign rfl rfl rfl ?_
            refine l_assign rfl rfl rfl ?_
            refine l_nil ?_
            refine e_then ?_
            refine c_keep [2, 3, 4] (.cons rfl (.cons rfl (.cons rfl .nil))) ?_
            refine c_ret ?_
            refine e_fj_ret ?_
            refine e_doneN Try.results44 (.cell rfl (load_agg_run hw33 mem0 Try.underlying62 rfl tz62 (.take (.take (.take (.take (.take .nil)))))) (.tmp rfl (.tmp rfl .nil))) rfl ?_
            refine ⟨_, rfl, ?_⟩
            have hw34 := St.del .head hw33
            try clear hw33
            first | exact ⟨_, _, _, _, _, _, _, _, _, rfl, .exp (by omega) (by omega) ha1 hfr (by omega) (by omega) (show ((t.getD a2 0 ||| 32).toNat : Int) = 101 by omega) ha4 hjr (by omega) (by first | rw [if_pos (by assumption), ← hx] | rw [if_neg (by assumption), ← hx]), h14_3, hvf, hw34.grows⟩ | exact ⟨_, _, _, _, _, _, _, _, _, rfl, .plain (by omega) (by omega) ha1 hfr (by omega) (fun h => show ¬ ((t.getD a2 0 ||| 32).toNat : Int) = 101 by omega), h14_3, hvf, hw34.grows⟩
          · skip
            refine c_skip ?_
            refine e_then ?_
            refine c_keep [0, 2, 3] (.cons rfl (.cons rfl (.cons rfl .nil))) ?_
            refine c_seq ?_
            refine c_region ?_
            refine l_move rfl rfl rfl ?_
            refine l_add rfl rfl rfl rfl (w_i64 (by omega)) ?_
            refine l_assign rfl rfl rfl ?_
            refine l_nil ?_
            refine e_then ?_
            refine c_keep [0, 2, 3] (.cons rfl (.cons rfl (.cons rfl .nil))) ?_
            refine c_seq ?_
            refine c_region ?_
            refine l_move rfl rfl rfl ?_
            refine l_assign rfl rfl rfl ?_
            refine l_nil ?_
            refine e_then ?_
            refine c_keep [0, 2, 3, 5] (.cons rfl (.cons rfl (.cons rfl (.cons rfl .nil)))) ?_
            refine c_cutk (ι := Nat) (fun (a4 : Nat) (w' : World) => St w w.heap.size None' ([As.blk b0_0 62 [.bool (ngb t), .int .i64 0, v14_3, vf, .int .i64 0]]) w' ∧ a4 = sg t (a2 + 1)) (fun (a4 : Nat) => [(3, .int .i64 (a4 : Int))]) [0, 2, 5] (.cons rfl (.cons rfl (.cons rfl .nil))) ?_ ?_
            · skip
              refine c_seq ?_
              refine c_region ?_
              refine l_move rfl rfl rfl ?_
              refine l_move rfl rfl rfl ?_
              refine v_lenb rfl rfl Try.underlying22 rfl (by first | exact hw30.ibl mem0 | exact hw30.iarg hv | assumption) ?_
              refine l_lss rfl rfl rfl rfl ?_
              refine l_move rfl rfl rfl ?_
              apply l_and 12 [0, 2, 3, 5] rfl rfl (.cons rfl (.cons rfl (.cons rfl (.cons rfl (.cons rfl .nil))))) rfl rfl (fun _ => rfl) rfl rfl rfl
              · intro hg25_5
                refine l_move rfl rfl rfl ?_
                refine l_move rfl rfl rfl ?_
                refine v_getbr (j := a2 + 1) rfl rfl rfl rfl Try.underlying22 tz5 Try.underlying5 rfl rfl (by first | exact hw30.ibl mem0 | exact hw30.iarg hv | assumption) rfl (by omega) (by omega) (fun hb25_7 => ?_)
                refine l_eql rfl rfl rfl rfl ?_
                refine l_move rfl rfl rfl ?_
                apply l_or 5 [0, 2, 3, 5, 138] rfl rfl (.cons rfl (.cons rfl (.cons rfl (.cons rfl (.cons rfl (.cons rfl .nil)))))) rfl rfl (fun _ => rfl) rfl rfl rfl
                · intro hg25_11
                  refine l_move rfl rfl rfl ?_
                  refine l_move rfl rfl rfl ?_
                  refine v_getbr (j := a2 + 1) rfl rfl rfl rfl Try.underlying22 tz5 Try.underlying5 rfl rfl (by first | exact hw30.ibl mem0 | exact hw30.iarg hv | assumption) rfl (by omega) (by omega) (fun hb25_13 => ?_)
                  refine l_eql rfl rfl rfl rfl ?_
                  refine l_nil ?_
                  exact e_stays rfl (.cons rfl (congrArg Value.bool (decide_eq_false hg25_11).symm) (.cons rfl rfl (.cons rfl rfl (.cons rfl rfl (.cons rfl rfl (.cons rfl rfl .nil))))))
                refine l_nil ?_
                exact e_stays rfl (.cons rfl (congrArg Value.bool (decide_eq_true hg25_5).symm) (.cons rfl rfl (.cons rfl rfl (.cons rfl rfl (.cons rfl rfl .nil)))))
              refine l_nil ?_
              refine e_then ?_
              refine c_keep [0, 2, 3, 5, 151] (.cons rfl (.cons rfl (.cons rfl (.cons rfl (.cons rfl .nil))))) ?_
              first | refine c_cond rfl (fun hc12 => ?_) (fun hc12 => ?_) | refine c_condb rfl (fun hc12 => ?_) (fun hc12 => ?_)
              · skip
                refine c_region ?_
                refine l_move rfl rfl rfl ?_
                refine l_add rfl rfl rfl rfl (w_i64 (by omega)) ?_
                refine l_assign rfl rfl rfl ?_
                refine l_nil ?_
                refine e_meetk (a2 + 1 + 1) ?_ (.cons rfl (.cons rfl (.cons rfl .nil))) ?_
                · exact ⟨hw30, (sg_yes (by omega) (And.right (by first | exact hc6 | exact hc12))).symm⟩
                · exact (.cons rfl (by first | rfl | (refine congrArg (Value.int _) ?_; omega)) .nil)
              · skip
                refine c_skip ?_
                refine e_meetk (a2 + 1) ?_ (.cons rfl (.cons rfl (.cons rfl .nil))) ?_
                · exact ⟨hw30, (sg_no (fun h => absurd (show (((a2 : Int) + 1 < (t.length : Int)) ∧ (((t.getD (a2 + 1) 0).toNat : Int) = 43 ∨ ((t.getD (a2 + 1) 0).toNat : Int) = 45)) from ⟨by omega, h.2⟩) (by first | exact hc6 | exact hc12))).symm⟩
                · exact (.cons rfl (by first | rfl | (refine congrArg (Value.int _) ?_; omega)) .nil)
            rintro a4 w35 ⟨hw35, ha4⟩
            show RunC P _ _ _ (_ :: _) _
            refine c_seq ?_
            refine c_seq ?_
            refine c_region ?_
            have hs4 := sg_le t (i := a2 + 1) (by omega)
            have hr4 := run_drop_le t a4 (by omega)
            refine l_move rfl rfl rfl ?_
            refine l_move rfl rfl rfl ?_
            refine l_callp rfl rfl Try.func45 rfl rfl (.cons rfl (.cons rfl .nil)) (run_dig v t (by omega) a4 (by omega) w35 (hw35.iarg hv)) ?_
            refine l_eql rfl rfl rfl rfl ?_
            refine l_nil ?_
            refine e_then ?_
            refine c_keep [0, 2, 3, 5, 157] (.cons rfl (.cons rfl (.cons rfl (.cons rfl (.cons rfl .nil))))) ?_
            first | refine c_cond rfl (fun hc13 => ?_) (fun hc13 => ?_) | refine c_condb rfl (fun hc13 => ?_) (fun hc13 => ?_)
            · skip
              refine c_seq ?_
              refine c_region ?_
              refine l_load_agg hw35 mem0 rfl rfl Try.underlying62 rfl tz62 rfl (.take (.take (.take (.take (.take .nil))))) ?_
              refine l_move rfl rfl rfl ?_
              refine l_store_blks hw35 .head (.zero (.zero (.zero (.zero (.zero .nil))))) rfl tz62 rfl rfl (by first | (simp [Value.oneCell']; done) | (intro u hu; simp only [List.mem_cons, List.not_mem_nil, or_false] at hu; rcases hu with rfl | rfl | rfl | rfl | rfl <;> first | rfl | assumption)) (fun w36 hw36 => ?_)
              try clear hw35
              refine l_assign rfl rfl rfl ?_
              refine l_assign rfl rfl rfl ?_
              refine l_nil ?_
              refine e_then ?_
              refine c_keep [2, 3, 4] (.cons rfl (.cons rfl (.cons rfl .nil))) ?_
              refine c_ret ?_
              refine e_then_ret ?_
              refine e_fj_ret ?_
              refine e_doneN Try.results44 (.cell rfl (load_agg_run hw36 mem0 Try.underlying62 rfl tz62 (.take (.take (.take (.take (.take .nil)))))) (.tmp rfl (.tmp rfl .nil))) rfl ?_
              refine ⟨_, rfl, ?_⟩
              have hw37 := St.del .head hw36
              try clear hw36
              exact ⟨_, _, _, _, _, _, _, _, _, rfl, .bad (by omega) (by omega) ha1 hfr (by omega) (by omega) (show ((t.getD a2 0 ||| 32).toNat : Int) = 101 by omega) ha4 (by omega), h14_3, hvf, hw37.grows⟩
            · skip
              refine c_skip ?_
              refine e_then ?_
              refine c_keep [0, 2, 3, 5] (.cons rfl (.cons rfl (.cons rfl (.cons rfl .nil)))) ?_
              refine c_seq ?_
              refine c_block ?_
              refine c_loopk (ι := Nat × Int) (fun (z0 : Nat × Int) => match z0 with | ⟨j, x⟩ => t.length - j) (fun (z0 : Nat × Int) (w' : World) => match z0 with | ⟨j, x⟩ => St w w.heap.size None' ([As.blk b0_0 62 [.bool (ngb t), .int .i64 0, v14_3, vf, .int .i64 x]]) w' ∧ a4 + j ≤ t.length ∧ (∀ i, i < j → isD (t.getD (a4 + i) 0)) ∧ x = expo ((t.drop a4).take j) ∧ 0 ≤ x ∧ x ≤ 99999) (fun (z0 : Nat × Int) => match z0 with | ⟨j, x⟩ => [(3, .int .i64 ((a4 + j : Nat) : Int))]) [0, 2, 5] (0, 0) ?_ (.cons rfl (.cons rfl (.cons rfl .nil))) ?_ ?_
              · exact ⟨hw35, by omega, fun i hi => by omega, rfl, by omega, by omega⟩
              · exact (.cons rfl (by first | rfl | (refine congrArg (Value.int _) ?_; omega)) .nil)
              rintro ⟨j, x⟩ w38 ⟨hw38, hj, hdg, hx, hx0, hx9⟩
              show RunC P _ _ _ (_ :: _) _
              refine c_seq ?_
              refine c_seq ?_
              refine c_region ?_
              refine l_move rfl rfl rfl ?_
              refine l_move rfl rfl rfl ?_
              refine v_lenb rfl rfl Try.underlying22 rfl (by first | exact hw38.ibl mem0 | exact hw38.iarg hv | assumption) ?_
              refine l_lss rfl rfl rfl rfl ?_
              refine l_move rfl rfl rfl ?_
              apply l_and 5 [0, 2, 3, 5] rfl rfl (.cons rfl (.cons rfl (.cons rfl (.cons rfl (.cons rfl .nil))))) rfl rfl (fun _ => rfl) rfl rfl rfl
              · intro hg29_5
                refine l_move rfl rfl rfl ?_
                refine l_move rfl rfl rfl ?_
                refine v_getbr (j := a4 + j) rfl rfl rfl rfl Try.underlying22 tz5 Try.underlying5 rfl rfl (by first | exact hw38.ibl mem0 | exact hw38.iarg hv | assumption) rfl (by omega) (by omega) (fun hb29_7 => ?_)
                refine l_callp rfl rfl Try.func58 rfl rfl (.cons rfl .nil) (is_digit _ _) ?_
                refine l_nil ?_
                exact e_stays rfl (.cons rfl (congrArg Value.bool (decide_eq_true hg29_5).symm) (.cons rfl rfl (.cons rfl rfl (.cons rfl rfl (.cons rfl rfl .nil)))))
              refine l_nil ?_
              refine e_then ?_
              refine c_keep [0, 2, 3, 5, 170] (.cons rfl (.cons rfl (.cons rfl (.cons rfl (.cons rfl .nil))))) ?_
              first | refine c_cond rfl (fun hc14 => ?_) (fun hc14 => ?_) | refine c_condb rfl (fun hc14 => ?_) (fun hc14 => ?_)
              · skip
                refine c_skip ?_
                refine e_then ?_
                refine c_keep [0, 2, 3, 5] (.cons rfl (.cons rfl (.cons rfl (.cons rfl .nil)))) ?_
                refine c_seq ?_
                refine c_block ?_
                refine c_tail 12 (by kernel_rfl) (by kernel_rfl) ?_
                have hw39 := hw38.drewn
                try clear hw38
                have hd48 : isD (t.getD (a4 + j) 0) := (And.right (by first | exact hc8 | exact hc14))
                have hd49 := hd48
                unfold isD at hd49
                refine l_field fo62_4 rfl rfl rfl ?_
                refine l_load_blk hw39 mem0 rfl rfl Try.underlying3 rfl rfl rfl ?_
                refine l_mul rfl rfl rfl rfl (w_i64 (by omega)) ?_
                refine l_move rfl rfl rfl ?_
                refine l_move rfl rfl rfl ?_
                refine v_getbr (j := a4 + j) rfl rfl rfl rfl Try.underlying22 tz5 Try.underlying5 rfl rfl (by first | exact hw39.ibl mem0 | exact hw39.iarg hv | assumption) rfl (by omega) (by omega) (fun hb31_5 => ?_)
                refine l_sub rfl rfl rfl rfl (w_u8 (by omega)) ?_
                refine l_conv rfl rfl Try.underlying5 Try.underlying3 rfl (w_i64 (by omega)) ?_
                refine l_add rfl rfl rfl rfl (w_i64 (by omega)) ?_
                refine l_min rfl rfl rfl rfl ?_
                refine l_field fo62_4 rfl rfl rfl ?_
                refine l_nil ?_
                refine e_tail ?_
                refine l_store_blk hw39 .head (by repeat (first | exact .zero | apply SetAt.succ)) rfl tz3 rfl rfl (by first | rfl | assumption) (fun w40 hw40 => ?_)
                try clear hw39
                refine l_nil ?_
                refine e_blk ?_
                refine e_then ?_
                refine c_keep [0, 2, 3, 5] (.cons rfl (.cons rfl (.cons rfl (.cons rfl .nil)))) ?_
                refine c_region ?_
                refine l_move rfl rfl rfl ?_
                refine l_add rfl rfl rfl rfl (w_i64 (by omega)) ?_
                refine l_assign rfl rfl rfl ?_
                refine l_nil ?_
                refine e_againk (i := (j, x)) (j + 1, min (10 * x + (((t.getD (a4 + j) 0).toNat : Int) - 48)) 99999) ?_ ?_ (.cons rfl (.cons rfl (.cons rfl .nil))) ?_
                · first | omega | (simp; omega)
                · refine ⟨hw40, by omega, fun i hi => ?_, ?_, by omega, by omega⟩
                  · rcases Nat.lt_or_ge i j with h | h
                    · exact hdg i h
                    · obtain rfl : i = j := by omega
                      exact hd48
                  · rw [take_snoc_drop t (by omega), expo_snoc, ← hx]
                · exact (.cons rfl (by first | rfl | (refine congrArg (Value.int _) ?_; omega)) .nil)
              · skip
                refine c_exit ?_
                refine e_then_exit ?_
                refine e_then_exit ?_
                refine e_blk_exit ?_
                refine e_then ?_
                refine c_keep [0, 2, 3, 5] (.cons rfl (.cons rfl (.cons rfl (.cons rfl .nil)))) ?_
                refine c_seq ?_
                refine c_seq ?_
                refine c_region ?_
                have hjr : j = run (t.drop a4) := (run_eqn t a4 j (by omega) hdg hj (fun h hh => absurd (show (((a4 + j : Nat) : Int) < (t.length : Int)) ∧ isD (t.getD (a4 + j) 0) from ⟨by omega, hh⟩) (by first | exact hc8 | exact hc14))).symm
                refine l_move rfl rfl rfl ?_
                refine l_move rfl rfl rfl ?_
                refine v_getbr (j := a2 + 1) rfl rfl rfl rfl Try.underlying22 tz5 Try.underlying5 rfl rfl (by first | exact hw38.ibl mem0 | exact hw38.iarg hv | assumption) rfl (by omega) (by omega) (fun hb32_2 => ?_)
                refine l_eql rfl rfl rfl rfl ?_
                refine l_nil ?_
                refine e_then ?_
                refine c_keep [0, 2, 3, 189] (.cons rfl (.cons rfl (.cons rfl (.cons rfl .nil)))) ?_
                first | refine c_cond rfl (fun hc15 => ?_) (fun hc15 => ?_) | refine c_condb rfl (fun hc15 => ?_) (fun hc15 => ?_)
                · skip
                  refine c_region ?_
                  refine l_field fo62_4 rfl rfl rfl ?_
                  refine l_load_blk hw38 mem0 rfl rfl Try.underlying3 rfl rfl rfl ?_
                  refine l_neg rfl rfl rfl (w_i64 (by omega)) ?_
                  refine l_field fo62_4 rfl rfl rfl ?_
                  refine l_store_blk hw38 .head (by repeat (first | exact .zero | apply SetAt.succ)) rfl tz3 rfl rfl (by first | rfl | assumption) (fun w41 hw41 => ?_)
                  try clear hw38
                  refine l_nil ?_
                  refine e_then ?_
                  refine c_keep [0, 2, 3] (.cons rfl (.cons rfl (.cons rfl .nil))) ?_
                  refine c_seq ?_
                  refine c_label ?_
                  refine e_then ?_
                  refine c_seq ?_
                  refine c_region ?_
                  refine l_load_agg hw41 mem0 rfl rfl Try.underlying62 rfl tz62 rfl (.take (.take (.take (.take (.take .nil))))) ?_
                  refine l_move rfl rfl rfl ?_
                  refine l_move rfl rfl rfl ?_
                  refine l_move rfl rfl rfl ?_
                  refine v_lenb rfl rfl Try.underlying22 rfl (by first | exact hw41.ibl mem0 | exact hw41.iarg hv | assumption) ?_
                  refine l_eql rfl rfl rfl rfl ?_
                  refine l_store_blks hw41 .head (.zero (.zero (.zero (.zero (.zero .nil))))) rfl tz62 rfl rfl (by first | (simp [Value.oneCell']; done) | (intro u hu; simp only [List.mem_cons, List.not_mem_nil, or_false] at hu; rcases hu with rfl | rfl | rfl | rfl | rfl <;> first | rfl | assumption)) (fun w42 hw42 => ?_)
                  try clear hw41
                  refine l_assign rfl rfl rfl ?_
                  refine l_assign rfl rfl rfl ?_
                  refine l_nil ?_
                  refine e_then ?_
                  refine c_keep [2, 3, 4] (.cons rfl (.cons rfl (.cons rfl .nil))) ?_
                  refine c_ret ?_
                  refine e_fj_ret ?_
                  refine e_doneN Try.results44 (.cell rfl (load_agg_run hw42 mem0 Try.underlying62 rfl tz62 (.take (.take (.take (.take (.take .nil)))))) (.tmp rfl (.tmp rfl .nil))) rfl ?_
                  refine ⟨_, rfl, ?_⟩
                  have hw43 := St.del .head hw42
                  try clear hw42
                  first | exact ⟨_, _, _, _, _, _, _, _, _, rfl, .exp (by omega) (by omega) ha1 hfr (by omega) (by omega) (show ((t.getD a2 0 ||| 32).toNat : Int) = 101 by omega) ha4 hjr (by omega) (by first | rw [if_pos (by assumption), ← hx] | rw [if_neg (by assumption), ← hx]), h14_3, hvf, hw43.grows⟩ | exact ⟨_, _, _, _, _, _, _, _, _, rfl, .plain (by omega) (by omega) ha1 hfr (by omega) (fun h => show ¬ ((t.getD a2 0 ||| 32).toNat : Int) = 101 by omega), h14_3, hvf, hw43.grows⟩
                · skip
                  refine c_skip ?_
                  refine e_then ?_
                  refine c_keep [0, 2, 3] (.cons rfl (.cons rfl (.cons rfl .nil))) ?_
                  refine c_seq ?_
                  refine c_label ?_
                  refine e_then ?_
                  refine c_seq ?_
                  refine c_region ?_
                  refine l_load_agg hw38 mem0 rfl rfl Try.underlying62 rfl tz62 rfl (.take (.take (.take (.take (.take .nil))))) ?_
                  refine l_move rfl rfl rfl ?_
                  refine l_move rfl rfl rfl ?_
                  refine l_move rfl rfl rfl ?_
                  refine v_lenb rfl rfl Try.underlying22 rfl (by first | exact hw38.ibl mem0 | exact hw38.iarg hv | assumption) ?_
                  refine l_eql rfl rfl rfl rfl ?_
                  refine l_store_blks hw38 .head (.zero (.zero (.zero (.zero (.zero .nil))))) rfl tz62 rfl rfl (by first | (simp [Value.oneCell']; done) | (intro u hu; simp only [List.mem_cons, List.not_mem_nil, or_false] at hu; rcases hu with rfl | rfl | rfl | rfl | rfl <;> first | rfl | assumption)) (fun w44 hw44 => ?_)
                  try clear hw38
                  refine l_assign rfl rfl rfl ?_
                  refine l_assign rfl rfl rfl ?_
                  refine l_nil ?_
                  refine e_then ?_
                  refine c_keep [2, 3, 4] (.cons rfl (.cons rfl (.cons rfl .nil))) ?_
                  refine c_ret ?_
                  refine e_fj_ret ?_
                  refine e_doneN Try.results44 (.cell rfl (load_agg_run hw44 mem0 Try.underlying62 rfl tz62 (.take (.take (.take (.take (.take .nil)))))) (.tmp rfl (.tmp rfl .nil))) rfl ?_
                  refine ⟨_, rfl, ?_⟩
                  have hw45 := St.del .head hw44
                  try clear hw44
                  first | exact ⟨_, _, _, _, _, _, _, _, _, rfl, .exp (by omega) (by omega) ha1 hfr (by omega) (by omega) (show ((t.getD a2 0 ||| 32).toNat : Int) = 101 by omega) ha4 hjr (by omega) (by first | rw [if_pos (by assumption), ← hx] | rw [if_neg (by assumption), ← hx]), h14_3, hvf, hw45.grows⟩ | exact ⟨_, _, _, _, _, _, _, _, _, rfl, .plain (by omega) (by omega) ha1 hfr (by omega) (fun h => show ¬ ((t.getD a2 0 ||| 32).toNat : Int) = 101 by omega), h14_3, hvf, hw45.grows⟩
end Go.Proofs.Ytjkaahnadaapoaa.W
