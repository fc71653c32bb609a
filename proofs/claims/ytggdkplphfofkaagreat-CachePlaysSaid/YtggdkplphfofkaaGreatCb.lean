/- the cache's rows; walks of complete's function and exponent -/
import Derived.Test.YtggdkplphfofkaaGreatCa
import Derived.Test.YtggdkplphfofkaaGreatPh
import Derived.Test.YtggdkplphfofkaaGreatVf
set_option linter.unusedVariables false
set_option linter.unusedSimpArgs false
set_option maxRecDepth 10000
namespace Go.Proofs.YtggdkplphfofkaaGreat.W
open Go.Vc Go.RowKit
section
variable {P : Program} {N : Nat} {ρ : Env} {w w0 : World} {Q : PostM} {ops : Array Oper} {rest : List Oper} {d : Nat} {ty : TypeId} {pos : String} {af : Array Edge} {g : Option (Nat × Bool)} {B : Nat} {M : Nat → Prop} {σ σ' : List As}
theorem l_indexAn {x ix : Operand} {k : IntKind} {i : Int} {j m b n : Nat} {T e : TypeId} (hg : wantE ops ρ g = true) (hN : Nat.blt d N = true) (hT : P.underlying T = some (.array m e)) (hsz : (P.info? e).map (·.size) = some n)
  (hx : evalE ρ x = some (.pointer (some ⟨b, 0, none⟩))) (hi : evalE ρ ix = some (.int k i)) (hij : i = (j : Int)) (hb : j < m)
  (nx : RunL P N ops Q rest ((d, .pointer (some ⟨b, j * n, none⟩)) :: ρ) w) : RunL P N ops Q (⟨some d, .indexAddr T x ix, ty, pos, af, g⟩ :: rest) ρ w := by
 subst hij
 exact l_val hg rfl hN (fun a ha => by
  cases hq : P.info? e with
  | none => simp [hq] at hsz
  | some inf =>
   have h1 : inf.size = n := by simpa [hq] using hsz
   have h2 : (⟨b, 0, none⟩ : Addr).add (j * n) = ⟨b, j * n, none⟩ := by rw [add_lit, Nat.zero_add]
   simp [execOp, ha.eval hx, ha.eval hi, Instr.indexAt, Instr.sureAddr, asIntOf, run_underlying hT, hb, sizeOf, typeInfo, hq, h1, h2]) nx
theorem l_neqp {x y : Operand} {p : Option Addr} {T U : TypeId} (hT : P.underlying T = some (.pointer (P.pointee T))) (hg : wantE ops ρ g = true) (hN : Nat.blt d N = true) (hx : evalE ρ x = some (.pointer p)) (hy : evalE ρ y = some (.pointer none)) (n : RunL P N ops Q rest ((d, .bool (decide (p.isSome = true))) :: ρ) w) : RunL P N ops Q (⟨some d, .binOp .neq T x y U, ty, pos, af, g⟩ :: rest) ρ w :=
 l_val hg rfl hN (fun a ha => by
  have hgd : (eqGuard .neq T x y (.pointer p) (.pointer none)).run P w = .ok () w := by simp [eqGuard]
  simp only [execOp, ha.eval hx, ha.eval hy, Sem.run_bind, hgd, Result.andThen_ok]
  rw [run_neq_pointer_nil _ T p hT]
  cases p <;> rfl) n
theorem l_eqlp {x y : Operand} {p : Option Addr} {T U : TypeId} (hT : P.underlying T = some (.pointer (P.pointee T))) (hg : wantE ops ρ g = true) (hN : Nat.blt d N = true) (hx : evalE ρ x = some (.pointer p)) (hy : evalE ρ y = some (.pointer none)) (n : RunL P N ops Q rest ((d, .bool (decide (p.isNone = true))) :: ρ) w) : RunL P N ops Q (⟨some d, .binOp .eql T x y U, ty, pos, af, g⟩ :: rest) ρ w :=
 l_val hg rfl hN (fun a ha => by
  have hgd : (eqGuard .eql T x y (.pointer p) (.pointer none)).run P w = .ok () w := by simp [eqGuard]
  simp only [execOp, ha.eval hx, ha.eval hy, Sem.run_bind, hgd, Result.andThen_ok]
  rw [run_eql_pointer_nil _ T p hT]
  cases p <;> rfl) n
theorem St_setc {b o : Nat} {E : TypeId} {cs : List Value} {x : Value} (hw : St w0 B M σ w) (u : Upd σ (As.blk b E cs) (As.blk b E (cs.set o x)) σ') : St w0 B M σ' (w.setCell ⟨b, o, none⟩ x) := by
 have hb : w.heap[b]? = some (.cells cs.toArray E (0, 0)) := hw.ok u.mem
 refine hw.upd u ⟨rfl, rfl, rfl, by simp [World.setCell], fun k hk hm => Below.heap_setCell _ _ _ _ (fun e => hm (by subst e; rfl))⟩ ?_ ?_
 ·show (w.setCell ⟨b, o, none⟩ x).heap[b]? = _
  simp [World.setCell, Array.getElem?_modify, hb]
 ·intro k hk
  have : k = b := hk
  subst this
  exact ⟨.inl rfl, by simpa [World.setCell] using (Array.getElem?_eq_some_iff.1 hb).1⟩
theorem blk_cell {b o : Nat} {E : TypeId} {cs : List Value} {v : Value} (h : (As.blk b E cs).ok w) (hv : cs[o]? = some v) : w.cell? ⟨b, o, none⟩ = some v ∧ w.frozen? ⟨b, o, none⟩ = false := by
 have hb : w.heap[b]? = some (.cells cs.toArray E (0, 0)) := h
 exact ⟨by rw [cell_of_row w b _ cs.toArray E (0, 0) hb]; simpa using hv, by simp [World.frozen?, hb]⟩
theorem many_iff {τ τ' : List As} (h : St w0 B M (As.many τ :: σ) w) (hm : ∀ A, A ∈ τ' ↔ A ∈ τ) : St w0 B M (As.many τ' :: σ) w := by
 refine h.as .head (fun k hk => ?_) (fun w hw A hA => hw A ((hm A).1 hA))
 obtain ⟨A, hA, hk⟩ := hk
 exact ⟨A, (hm A).1 hA, hk⟩
end
theorem syLoadIR {b o : Nat} {E : TypeId} {cs : List Value} {x : Int} {w : World} (h : (As.blk b E cs).ok w) (hc : cs[o]? = some (.int .i64 x)) : CallsV P 21 [.pointer (some ⟨b, o, none⟩)] w fun r w' => r = .int .i64 x ∧ w = w' :=
 Calls.mono (syLoadI ⟨b, o, none⟩ x w (blk_cell h hc).1) fun e w' ⟨h1, h2⟩ => ⟨_, h1, rfl, h2.symm⟩
theorem syAddR {b o : Nat} {E : TypeId} {cs : List Value} {x : Int} {w : World} (hx : 0 ≤ x ∧ x ≤ 1000000) (h : (As.blk b E cs).ok w) (hc : cs[o]? = some (.int .i64 x)) : CallsV P 33 [.pointer (some ⟨b, o, none⟩), .int .i64 1] w fun r w' => r = .int .i64 (x + 1) ∧ Turn w w' (As.blk b E cs) (As.blk b E (cs.set o (.int .i64 (x + 1)))) :=
 Calls.mono (syAddI ⟨b, o, none⟩ x w hx (blk_cell h hc).1 (blk_cell h hc).2) fun e w' ⟨h1, h2⟩ => ⟨_, h1, rfl, fun w0 B M σ σ' u hw => h2 ▸ St_setc hw u⟩
theorem syLoadPR0 {b o : Nat} {E : TypeId} {cs : List Value} {w : World} (h : (As.blk b E cs).ok w) (hc : cs[o]? = some (.pointer none)) : CallsV P 22 [.pointer (some ⟨b, o, none⟩)] w fun r w' => r = .pointer none ∧ w = w' :=
 Calls.mono (syLoadP0 ⟨b, o, none⟩ w (blk_cell h hc).1) fun e w' ⟨h1, h2⟩ => ⟨_, h1, rfl, h2.symm⟩
theorem syLoadPR {b o pb : Nat} {E : TypeId} {cs : List Value} {v : Value} {w : World} (h : (As.blk b E cs).ok w) (hc : cs[o]? = some (.pointer (some ⟨pb, 0, none⟩))) (hb : (As.blk pb 81 [v]).ok w) : CallsV P 22 [.pointer (some ⟨b, o, none⟩)] w fun r w' => r = .pointer (some ⟨pb, 0, none⟩) ∧ w = w' :=
 Calls.mono (syLoadP ⟨b, o, none⟩ pb v w (blk_cell h hc).1 hb) fun e w' ⟨h1, h2⟩ => ⟨_, h1, rfl, h2.symm⟩
theorem syStorePR {b o pb : Nat} {E : TypeId} {cs : List Value} {u v : Value} {w : World} (h : (As.blk b E cs).ok w) (hc : cs[o]? = some u) (hb : (As.blk pb 81 [v]).ok w) : CallsV P 37 [.pointer (some ⟨b, o, none⟩), .pointer (some ⟨pb, 0, none⟩)] w fun r w' => r = .tuple #[] ∧ Turn w w' (As.blk b E cs) (As.blk b E (cs.set o (.pointer (some ⟨pb, 0, none⟩)))) :=
 Calls.mono (syStoreP ⟨b, o, none⟩ pb v u w (blk_cell h hc).1 (blk_cell h hc).2 hb) fun e w' ⟨h1, h2⟩ => ⟨_, h1, rfl, fun w0 B M σ σ' u hw => h2 ▸ St_setc hw u⟩
def expF (q : Int) : Int := if q < 0 then -128 - (-q * 1217359) / 524288 else q * 1217359 / 524288 - 127
theorem exp_all : ∀ i : Fin 651, expF ((i.val : Int) - 342) = (entS ((i.val : Int) - 342)).2.1 := by decide +kernel
theorem exp_is {q : Int} (hq : -342 ≤ q ∧ q ≤ 308) : expF q = (entS q).2.1 := by
 have := exp_all ⟨(q + 342).toNat, by omega⟩
 rw [show (((q + 342).toNat : Nat) : Int) - 342 = q by omega] at this
 exact this
abbrev entW (q : Int) : List Value := wrow (entS q).1 ++ [.int .i64 (entS q).2.1]
def entR (s : Int) : List (List Value) := (List.range (firstS s).2.1.toNat).map fun i : Nat => entW ((firstS s).1 + (i : Int))
theorem entR_at (s : Int) (i : Nat) (h : i < (firstS s).2.1.toNat) : (entR s)[i]? = some (entW ((firstS s).1 + i)) := by simp [entR, h]
theorem entR_len (s : Int) : (entR s).length = (firstS s).2.1.toNat := by simp [entR]
theorem entR_rows (s : Int) : Rows_ 3 (entR s) := fun r hr => by
 obtain ⟨i, _, rfl⟩ := List.mem_map.1 hr
 exact ⟨rfl, by simp [Value.oneCell']⟩
theorem entR_eq {rs : List (List Value)} {s : Int} (hl : rs.length = (firstS s).2.1.toNat) (h : ∀ j : Nat, j < rs.length → rs[j]? = some (entW ((firstS s).1 + j))) : rs = entR s := by
 apply List.ext_getElem?
 intro j
 by_cases hj : j < rs.length
 ·rw [h j hj, entR_at s j (by omega)]
 ·rw [List.getElem?_eq_none (by omega), List.getElem?_eq_none (by rw [entR_len]; omega)]
theorem exponentC (q : Int) (hq : -342 ≤ q ∧ q ≤ 308) (w : World) :
  CallsV P 36 [.int .i64 q] w fun r w' => r = .int .i64 (entS q).2.1 ∧ w = w' := by
 refine enterW Tryz.func36 rfl Tryz.ntmps36 rfl ?_
 have he := exp_is hq
 unfold expF at he
 refine c_seq (c_region (l_assign rfl rfl rfl (l_nil (e_then ?_))))
 refine c_keep [0] (.cons rfl .nil) ?_
 refine c_seq (c_seq (c_region (l_move rfl rfl rfl ?_)))
 refine l_lss rfl rfl rfl rfl ?_
 refine l_nil (e_then ?_)
 refine c_keep [0, 4] (.cons rfl (.cons rfl .nil)) ?_
 first | refine c_cond rfl (fun hc0 => ?_) (fun hc0 => ?_) | refine c_condb rfl (fun hc0 => ?_) (fun hc0 => ?_)
 ·skip
  refine c_seq (c_region (l_move rfl rfl rfl ?_))
  refine l_neg rfl rfl rfl (w_i64 (by omega)) ?_
  refine l_mul rfl rfl rfl rfl (w_i64 (by omega)) ?_
  refine l_shr rfl rfl rfl rfl (by omega) (shr_eq (d := 524288) (by decide) (by decide)) ?_
  refine l_sub rfl rfl rfl rfl (w_i64 (by omega)) ?_
  refine l_assign rfl rfl rfl (l_nil (e_then ?_))
  refine c_keep [2] (.cons rfl .nil) ?_
  refine c_ret ?_
  refine e_then_ret ?_
  refine e_done1 Tryz.results36 rfl ?_
  refine ⟨_, rfl, ?_⟩
  rw [if_pos hc0] at he
  exact ⟨congrArg (Value.int .i64) (by rw [← he, show -q = 0 - q by omega]), rfl⟩
 ·skip
  refine c_skip (e_then ?_)
  refine c_keep [0] (.cons rfl .nil) ?_
  refine c_seq (c_region (l_move rfl rfl rfl ?_))
  refine l_mul rfl rfl rfl rfl (w_i64 (by omega)) ?_
  refine l_shr rfl rfl rfl rfl (by omega) (shr_eq (d := 524288) (by decide) (by decide)) ?_
  refine l_sub rfl rfl rfl rfl (w_i64 (by omega)) ?_
  refine l_assign rfl rfl rfl (l_nil (e_then ?_))
  refine c_keep [2] (.cons rfl .nil) ?_
  refine c_ret ?_
  refine e_done1 Tryz.results36 rfl ?_
  refine ⟨_, rfl, ?_⟩
  rw [if_neg hc0] at he
  exact ⟨congrArg (Value.int .i64) he, rfl⟩
theorem closC (kp ks b o : Nat) (s : Int) (cs : List Value) (hs : 0 ≤ s ∧ s ≤ 40) (hc3 : cs[o + 3]? = some (.int .i64 0)) (hc4 : cs[o + 4]? = some (.pointer none)) (w : World) (hS : Sep w.heap.size (fps [As.blk kp 95 [.pointer (some ⟨b, o, none⟩)], As.blk ks 3 [.int .i64 s], As.blk b 64 cs]) w [As.blk kp 95 [.pointer (some ⟨b, o, none⟩)], As.blk ks 3 [.int .i64 s], As.blk b 64 cs]) :
  CallsV P 32 [.pointer (some ⟨kp, 0, none⟩), .pointer (some ⟨ks, 0, none⟩)] w fun r w' => ∃ rb v, r = .tuple #[] ∧ Trans w w' [As.blk kp 95 [.pointer (some ⟨b, o, none⟩)], As.blk ks 3 [.int .i64 s], As.blk b 64 cs] [As.blk kp 95 [.pointer (some ⟨b, o, none⟩)], As.blk ks 3 [.int .i64 s], As.blk b 64 ((cs.set (o + 3) (.int .i64 1)).set (o + 4) (.pointer (some ⟨rb, 0, none⟩))), As.blk rb 81 [v], As.rk 87 3 v (entR s)] := by
 refine enterW Tryz.func32 rfl Tryz.ntmps32 rfl ?_
 have hw0 := St.startS hS
 have hw0 : St w w.heap.size (fps [As.blk kp 95 [.pointer (some ⟨b, o, none⟩)], As.blk ks 3 [.int .i64 s], As.blk b 64 cs]) [As.blk kp 95 [.pointer (some ⟨b, o, none⟩)], As.blk ks 3 [.int .i64 s], As.blk b 64 cs] w := hw0
 have hfe : firstS s = (-342 + 16 * s, if s = 40 then 11 else 16, 0) := by unfold firstS; rw [if_neg (by omega)]
 obtain ⟨q, hqd⟩ : ∃ q : Int, (firstS s).1 = q := ⟨_, rfl⟩
 obtain ⟨nn, hnd⟩ : ∃ nn : Nat, (firstS s).2.1 = (nn : Int) := ⟨(firstS s).2.1.toNat, by rw [hfe]; dsimp only; split <;> omega⟩
 have hq1 : q = -342 + 16 * s := by rw [← hqd, hfe]
 have hn1 : (nn : Int) = if s = 40 then 11 else 16 := by rw [← hnd, hfe]
 have hnb : 11 ≤ nn ∧ nn ≤ 16 ∧ q + nn ≤ 309 := by split at hn1 <;> omega
 have hsl : (segR s).length = nn := by rw [segR_len, hnd]; omega
 have hse : ∀ j : Nat, j < nn → (segR s)[j]? = some (wrow (entS (q + j)).1) := fun j hj => by rw [segR_at s j (by omega), hqd]
 have hsr := segR_rows s
 refine c_seq (c_region ?_)
 refine l_load_blk hw0 mem0 rfl rfl Tryz.underlying95 rfl rfl rfl ?_
 refine l_nilCheck rfl rfl rfl (l_field fo61_1 rfl rfl rfl ?_)
 refine l_call rfl rfl Tryz.func33 rfl rfl (.cons rfl (.cons rfl .nil)) (syAddR (x := 0) (by omega) (hw0.ok mem2) hc3) ?_
 rintro _ w1 ⟨_, hT⟩
 have hw1 := hT _ _ _ _ _ (.tail (.tail .head)) hw0
 try clear hT hw0
 refine l_nil (e_then ?_)
 refine c_keep [0, 1] (.cons rfl (.cons rfl .nil)) ?_
 refine c_seq (c_region ?_)
 refine l_load_blk hw1 mem1 rfl rfl Tryz.underlying3 rfl rfl rfl ?_
 refine l_callp rfl rfl Tryz.func34 rfl rfl (.cons rfl .nil) (firstP s (by omega) _) ?_
 rw [hqd]
 refine l_move rfl rfl rfl (l_extract rfl rfl rfl rfl (l_extract rfl rfl rfl rfl (l_extract rfl rfl rfl rfl (l_assign rfl rfl rfl (l_assign rfl rfl rfl ?_)))))
 refine l_assign rfl rfl rfl (l_nil (e_then ?_))
 refine c_keep [0, 1, 2] (.cons rfl (.cons rfl (.cons rfl .nil))) ?_
 refine c_seq (c_region ?_)
 refine l_load_blk hw1 mem1 rfl rfl Tryz.underlying3 rfl rfl rfl ?_
 refine l_call rfl rfl Tryz.func35 rfl rfl (.cons rfl .nil) (segP s (by omega) w1) ?_
 rintro _ w2 ⟨vw, rfl, hG⟩
 have hw2 := hG _ _ _ _ hw1
 try clear hG hw1
 simp only [List.cons_append, List.nil_append] at hw2
 refine l_move rfl rfl rfl (l_extract rfl rfl rfl rfl (l_extract rfl rfl rfl rfl (l_assign rfl rfl rfl (l_assign rfl rfl rfl (l_nil ?_)))))
 refine e_then ?_
 refine c_keep [0, 2, 5] (.cons rfl (.cons rfl (.cons rfl .nil))) ?_
 refine c_seq (c_region (l_move rfl rfl rfl ?_))
 refine k_len rfl rfl Tryz.underlying98 rfl (by first | exact hw2.ik (by assumption) mem0 | exact hw2.ibl mem1 | exact hw2.ibl mem2 | exact hw2.ibl mem3 | assumption) ?_
 refine k_make (m := nn) (c := nn) hw2 rfl rfl Tryz.underlying81 ti87 rfl (by decide) (by simp [Value.oneCell']) rfl rfl (by omega) (by omega) (by omega) (by omega) (by simp only [maxLen]; omega) (by omega) (fun v3_2 w3 hw3 => ?_)
 try clear hw2
 refine l_alloc hw3 ta81 rfl rfl (fun b3_3 w4 hw4 => ?_)
 try clear hw3
 have h32 : v3_2.oneCell' = true := by
  obtain ⟨_, A, c, e, _⟩ := hw4.ik (Rows_.rep (k := 3) (z := [.int .u64 0, .int .u64 0, .int .i64 0]) rfl (by simp [Value.oneCell']) nn) (.tail _ (.head _))
  rw [e]
  rfl
 refine l_store_blk hw4 .head (by repeat (first | exact .zero | apply SetAt.succ)) rfl tz81 rfl rfl (by first | rfl | assumption) (fun w5 hw5 => ?_)
 try clear hw4
 refine l_nil (e_then ?_)
 refine c_keep [0, 2, 5, 7] (.cons rfl (.cons rfl (.cons rfl (.cons rfl .nil)))) ?_
 refine c_seq (c_seq (c_region (l_move rfl rfl rfl ?_)))
 refine k_len rfl rfl Tryz.underlying98 rfl (by first | exact hw5.ibl mem0 | exact hw5.ik (by assumption) mem1 | exact hw5.ik (by assumption) mem2 | exact hw5.ibl mem3 | exact hw5.ibl mem4 | exact hw5.ibl mem5 | assumption) ?_
 refine l_move rfl rfl rfl (l_nil (e_then ?_))
 refine c_keep [0, 2, 7, 28, 29, 30] (.cons rfl (.cons rfl (.cons rfl (.cons rfl (.cons rfl (.cons rfl .nil)))))) ?_
 refine c_block ?_
 refine c_loopk (ι := Nat × List (List Value)) (fun (z0 : Nat × List (List Value)) => match z0 with | ⟨i, rs⟩ => nn - i) (fun (z0 : Nat × List (List Value)) (w' : World) => match z0 with | ⟨i, rs⟩ => St w w.heap.size (fps [As.blk kp 95 [.pointer (some ⟨b, o, none⟩)], As.blk ks 3 [.int .i64 s], As.blk b 64 cs]) ([As.blk b3_3 81 [v3_2], As.rk 87 3 v3_2 rs, As.rk 67 2 vw (segR s), As.blk kp 95 [.pointer (some ⟨b, o, none⟩)], As.blk ks 3 [.int .i64 s], As.blk b 64 (cs.set (o + 3) (.int .i64 1))]) w' ∧ i ≤ nn ∧ rs.length = nn ∧ Rows_ 3 rs ∧ ∀ j : Nat, j < i → rs[j]? = some (entW (q + j))) (fun (z0 : Nat × List (List Value)) => match z0 with | ⟨i, rs⟩ => [(30, .int .i64 (i : Int))]) [0, 2, 7, 28, 29] (0, List.replicate nn [.int .u64 0, .int .u64 0, .int .i64 0]) ?_ (.cons rfl (.cons rfl (.cons rfl (.cons rfl (.cons rfl .nil))))) ?_ ?_
 ·exact ⟨hw5, by omega, by simp, Rows_.rep rfl (by simp [Value.oneCell']) _, fun j h => by omega⟩
 ·exact (.cons rfl (by first | rfl | (refine congrArg (Value.int _) ?_; omega)) .nil)
 rintro ⟨i, rs⟩ w6 ⟨hw6, hi, hrl, hRs, hrow⟩
 show RunC P _ _ _ (_ :: _) _
 refine c_seq (c_region ?_)
 refine l_lss rfl rfl rfl rfl ?_
 refine l_nil (e_then (c_seq ?_))
 first | refine c_cond rfl (fun hc0 => ?_) (fun hc0 => ?_) | refine c_condb rfl (fun hc0 => ?_) (fun hc0 => ?_)
 ·skip
  refine c_skip (e_then ?_)
  refine c_keep [0, 2, 7, 28, 29, 30] (.cons rfl (.cons rfl (.cons rfl (.cons rfl (.cons rfl (.cons rfl .nil)))))) ?_
  refine c_seq (c_block (c_seq (c_region ?_)))
  have hi1 : i < nn := by omega
  refine l_move rfl rfl rfl ?_
  refine k_addr (j := i) rfl rfl Tryz.underlying98 tz67 (by decide) rfl rfl (by first | exact hw6.ibl mem0 | exact hw6.ik (by assumption) mem1 | exact hw6.ik (by assumption) mem2 | exact hw6.ibl mem3 | exact hw6.ibl mem4 | exact hw6.ibl mem5 | assumption) (by first | rfl | omega) (by first | omega | (simp; done) | (simp; omega)) (fun ad6_1 ac6_1 hA6_1 => ?_)
  refine k_load (j := i) rfl rfl Tryz.underlying67 rfl tz67 rfl hA6_1 (by first | exact hw6.ibl mem0 | exact hw6.ik (by assumption) mem1 | exact hw6.ik (by assumption) mem2 | exact hw6.ibl mem3 | exact hw6.ibl mem4 | exact hw6.ibl mem5 | assumption) (hse i hi1) ?_
  refine l_alloc hw6 ta67 rfl rfl (fun b6_3 w7 hw7 => ?_)
  try clear hw6
  refine l_assign rfl rfl rfl ?_
  refine l_store_blks hw7 .head (.zero (.zero .nil)) rfl tz67 rfl rfl (by first | (simp [Value.oneCell']; done) | (intro u hu; simp only [List.mem_cons, List.not_mem_nil, or_false] at hu; rcases hu with rfl | rfl <;> first | rfl | assumption)) (fun w8 hw8 => ?_)
  try clear hw7
  refine l_nil (e_then ?_)
  refine c_keep [0, 2, 7, 8, 9, 28, 29, 30] (.cons rfl (.cons rfl (.cons rfl (.cons rfl (.cons rfl (.cons rfl (.cons rfl (.cons rfl .nil)))))))) ?_
  refine c_tail 9 (by kernel_rfl) (by kernel_rfl) ?_
  have hw9 := hw8.drewn
  try clear hw8
  refine l_load_blk hw9 mem1 rfl rfl Tryz.underlying81 rfl rfl rfl ?_
  refine l_move rfl rfl rfl ?_
  refine l_load_agg hw9 mem0 rfl rfl Tryz.underlying67 rfl tz67 rfl (.take (.take .nil)) ?_
  refine l_move rfl rfl rfl (l_move rfl rfl rfl ?_)
  refine l_add rfl rfl rfl rfl (w_i64 (by omega)) ?_
  refine l_callp rfl rfl Tryz.func36 rfl rfl (.cons rfl .nil) (exponentC (q + i) (by omega) _) ?_
  refine l_buildS rfl rfl pl87 ta87 (.row rfl rfl rfl (.zero (.zero .nil)) (.one rfl rfl (by first | rfl | assumption) (.succ (.succ .zero)) .nil)) ?_
  refine k_addr (j := i) rfl rfl Tryz.underlying81 tz87 (by decide) rfl rfl (by first | exact hw9.ibl mem0 | exact hw9.ibl mem1 | exact hw9.ik (by assumption) mem2 | exact hw9.ik (by assumption) mem3 | exact hw9.ibl mem4 | exact hw9.ibl mem5 | exact hw9.ibl mem6 | assumption) (by first | rfl | omega) (by first | omega | (simp; done) | (simp; omega)) (fun ad7_8 ac7_8 hA7_8 => ?_)
  refine l_nil ?_
  refine e_tail ?_
  refine k_store (j := i) hw9 (.tail (.tail .head)) (by assumption) (by decide) hA7_8 rfl tz87 rfl rfl rfl (by first | omega | (simp; done) | (simp; omega)) (by first | (simp [Value.oneCell']; done) | (intro u hu; simp only [List.mem_cons, List.not_mem_nil, or_false] at hu; rcases hu with rfl | rfl | rfl <;> first | rfl | assumption)) (fun w10 hw10 => ?_)
  try clear hw9
  refine l_nil ?_
  refine e_blk ?_
  refine e_then ?_
  refine c_keep [0, 2, 7, 28, 29, 30] (.cons rfl (.cons rfl (.cons rfl (.cons rfl (.cons rfl (.cons rfl .nil)))))) ?_
  refine c_region ?_
  refine l_add rfl rfl rfl rfl (w_i64 (by omega)) ?_
  refine l_move rfl rfl rfl (l_nil ?_)
  have hw11 := St.del .head hw10
  try clear hw10
  refine e_againk (i := (i, rs)) (i + 1, rs.set i (entW (q + i))) ?_ ?_ (.cons rfl (.cons rfl (.cons rfl (.cons rfl (.cons rfl .nil))))) ?_
  ·first | omega | (simp; omega)
  ·refine ⟨hw11, by omega, by simpa using hrl, hRs.set rfl (by simp [Value.oneCell']) _, fun j h => ?_⟩
   rw [wrow_set (by omega)]
   split
   ·rename_i h3; rw [h3]
   ·exact hrow j (by omega)
  ·exact (.cons rfl (by first | rfl | (refine congrArg (Value.int _) ?_; omega)) .nil)
 ·skip
  refine c_exit ?_
  refine e_then_exit ?_
  refine e_then_exit ?_
  refine e_blk_exit ?_
  refine e_then ?_
  refine c_keep [0, 7] (.cons rfl (.cons rfl .nil)) ?_
  refine c_region ?_
  refine l_load_blk hw6 mem3 rfl rfl Tryz.underlying95 rfl rfl rfl ?_
  refine l_nilCheck rfl rfl rfl (l_field fo61_2 rfl rfl rfl ?_)
  refine l_call rfl rfl Tryz.func37 rfl rfl (.cons rfl (.cons rfl .nil)) (syStorePR (u := .pointer none) (v := v3_2) (hw6.ok mem5) (by rw [List.getElem?_set_ne (by omega)]; exact hc4) (hw6.ok mem0)) ?_
  rintro _ w12 ⟨_, hT⟩
  have hw12 := hT _ _ _ _ _ (.tail (.tail (.tail (.tail (.tail .head))))) hw6
  try clear hT hw6
  refine l_nil ?_
  try dsimp only
  refine e_done0 Tryz.results32 ?_
  refine ⟨_, rfl, ?_⟩
  have hw13 := St.front1 hw12
  try clear hw12
  have hw14 := St.front1 hw13
  try clear hw13
  have hw15 := St.front5 hw14
  try clear hw14
  have hw16 := St.front5 hw15
  try clear hw15
  have hw17 := St.front5 hw16
  try clear hw16
  have hw18 := St.del (.tail (.tail (.tail (.tail (.tail .head))))) hw17
  try clear hw17
  obtain rfl : i = nn := by omega
  have es : rs = entR s := entR_eq (by rw [hnd]; omega) (fun j hj => by rw [hqd]; exact hrow j (by omega))
  rw [es] at hw18
  exact ⟨b3_3, v3_2, rfl, (hw18.cast rfl).transS⟩
end Go.Proofs.YtggdkplphfofkaaGreat.W
