/- locks and atomic numbers of Go's library -/
import Derived.Test.YtfomhfbmmjhljaaGreatDoorPa
import Derived.ChangeAlike
import Derived.RegionCalls
import Derived.RegionTactic
import Derived.Laws.LoneSync
import Derived.Laws.Pointers
import Derived.Defers
import Derived.Tactics2
import Derived.Tactics
set_option linter.unusedVariables false
set_option linter.unusedSimpArgs false
set_option maxRecDepth 10000
namespace Go.Proofs.YtfomhfbmmjhljaaGreatDoor.W
open Go.Vc Go.RowKit Tryz
theorem syDis (w : World) : (callFunc 148 #[]).run Tryz.prog w = .ok (.value (.tuple #[])) w := run_call_mark0 func148 (by kernel_rfl) (by kernel_rfl) (by kernel_rfl) .disable (by kernel_rfl) w
theorem syEna (w : World) : (callFunc 150 #[]).run Tryz.prog w = .ok (.value (.tuple #[])) w := run_call_mark0 func150 (by kernel_rfl) (by kernel_rfl) (by kernel_rfl) .enable (by kernel_rfl) w
theorem syAcq (a : Addr) (w : World) : (callFunc 151 #[.pointer (some a)]).run Tryz.prog w = .ok (.value (.tuple #[])) w := run_call_marked func151 (by kernel_rfl) (by kernel_rfl) (by kernel_rfl) .acquire (by kernel_rfl) a w
theorem syRel (a : Addr) (w : World) : (callFunc 153 #[.pointer (some a)]).run Tryz.prog w = .ok (.value (.tuple #[])) w := run_call_marked func153 (by kernel_rfl) (by kernel_rfl) (by kernel_rfl) .releaseMerge (by kernel_rfl) a w
theorem syStoreD (a : Addr) (x : Value) (u : FrameMode) (w : World) (hc : w.cell? a = some x) (hz : w.frozen? a = false) :
  CallsD Tryz.prog 140 #[.pointer (some a), .bool true] u w fun e u' w' => u' = u ∧ (e = .returned (.tuple #[]) ∧ w' = w.drew.setCell a (.int .u32 1)) := by
 have hc' : w.drew.cell? a = some x := by go_simp
 have hz' : w.drew.frozen? a = false := by go_simp
 have hst := run_call_store (P := Tryz.prog) func146 ZK ZK ZK ZK (k := .u32) (y := 1) hc' hz'
 go_enter_d func140, ntmps140
 go_wp2
 go_region_calls
 all_goals (go_end0; exact ⟨rfl, rfl⟩)
theorem syUnlockD (a : Addr) (u : FrameMode) (w : World) (hc : w.cell? a = some (.int .i32 1)) (hz : w.frozen? a = false) :
  CallsD Tryz.prog 139 #[.pointer (some a)] u w fun e u' w' => u' = u ∧ (e = .returned (.tuple #[]) ∧ w' = w.setCell a (.int .i32 0)) := by
 have hd := syDis
 have he := syEna
 have hr := syRel
 have hadd := run_call_add (P := Tryz.prog) func154 ZK ZK ZK .i32 ZK (y := -1) (s := 0) hc hz (by simp [go_sem]; rfl)
 have hcv := run_convert_to_unsafe (P := Tryz.prog) (src := 241) (dst := 58) underlying241 underlying58 ZK hc
 go_enter_d func139, ntmps139
 go_wp2
 go_end0
 go_wp2
 go_end0
 exact ⟨rfl, rfl⟩
theorem syLock (a : Addr) (w : World) (hc : w.cell? a = some (.int .i32 0)) (hz : w.frozen? a = false) :
  Calls Tryz.prog 138 #[.pointer (some a)] w fun e w' => e = .returned (.tuple #[]) ∧ w' = w.setCell a (.int .i32 1) := by
 have hd := syDis
 have he := syEna
 have ha := syAcq
 have hcas := run_call_cas_hit (P := Tryz.prog) func149 ZK ZK ZK .i32 ZK (y := 1) hc hz
 have hc' : (w.setCell a (.int .i32 1)).cell? a = some (.int .i32 1) := World.cell?_setCell_same w a _ hc
 have hcv := run_convert_to_unsafe (P := Tryz.prog) (src := 241) (dst := 58) underlying241 underlying58 ZK hc'
 go_enter func138, ntmps138
 go_wp2
 first | go_end0 | (simp only [Exit.inBlock, Exit.then]; refine bodyPost_ret (results_none rfl _ _ _) rfl ?_) | refine bodyPost_ret (results_none rfl _ _ _) rfl ?_
 go_wp2
 go_end0
 exact ⟨rfl, rfl⟩
theorem syLoadB (a : Addr) (d : Int) (w : World) (h0 : w.cell? a = some (.int .u32 d)) : Calls Tryz.prog 127 #[.pointer (some a)] w fun e w' => e = .returned (.bool (d != 0)) ∧ w' = w := by
 have hl := run_call_load (P := Tryz.prog) func137 ZK ZK ZK .u32 ZK h0
 go_enter func127, ntmps127
 go_wp2
 go_ret
 exact ⟨rfl, rfl⟩
set_option maxRecDepth 100000 in
set_option maxHeartbeats 1600000 in
/-- the slow road of Once.Do: the lock free, not yet done: whatever the function does with the lock taken, between it -/
theorem sySlow (b off : Nat) (caps : Array Value) (Q : World → Prop) (w : World)
  (h0 : w.cell? ⟨b, off, none⟩ = some (.int .u32 0)) (h1 : w.cell? ⟨b, off + 1, none⟩ = some (.int .i32 0)) (f1 : w.frozen? ⟨b, off + 1, none⟩ = false)
  (hclo : Calls Tryz.prog 114 caps (w.setCell ⟨b, off + 1, none⟩ (.int .i32 1)) fun e w2 => e = .returned (.tuple #[]) ∧ Q w2)
  (hq : ∀ w2, Q w2 → w2.cell? ⟨b, off, none⟩ = some (.int .u32 0) ∧ w2.cell? ⟨b, off + 1, none⟩ = some (.int .i32 1) ∧ w2.frozen? ⟨b, off, none⟩ = false ∧ w2.frozen? ⟨b, off + 1, none⟩ = false) :
  Calls Tryz.prog 128 #[.pointer (some ⟨b, off, none⟩), .func (.func 114) #[] caps] w fun e w' => e = .returned (.tuple #[]) ∧ ∃ w2, Q w2 ∧ w' = (w2.drew.setCell ⟨b, off, none⟩ (.int .u32 1)).setCell ⟨b, off + 1, none⟩ (.int .i32 0) := by
 have hc0 : (w.setCell ⟨b, off + 1, none⟩ (.int .i32 1)).cell? ⟨b, off, none⟩ = some (.int .u32 0) := (World.cell?_setCell_other _ ⟨b, off + 1, none⟩ ⟨b, off, none⟩ _ (by simp)).trans h0
 have hnot : ∀ (x : Bool) (w : World), (Op.unary .not (.bool x)).run Tryz.prog w = .ok (.bool (!x)) w := fun _ _ => rfl
 go_enter_defers func128, ntmps128
 go_wp2_with (first | (go_at_call 138; refine (syLock ⟨b, off + 1, none⟩ _ (by go_simp) (by go_simp)).mono ?_; rintro e w' ⟨rfl, rfl⟩) | (go_at_call 127; refine (syLoadB ⟨b, off, none⟩ 0 _ hc0).mono ?_; rintro e w' ⟨rfl, rfl⟩) | (go_at_call 114; refine hclo.mono ?_; rintro e w2 ⟨rfl, hQ⟩))
 obtain ⟨q0, q1, z0, z1⟩ := hq _ hQ
 refine leaves_cons (f := 140) (args := #[.pointer (some ⟨b, off, none⟩), .bool true]) (by simp) (by simp [go_sem]) ?_
 refine (syStoreD ⟨b, off, none⟩ (.int .u32 0) .returning _ q0 z0).mono ?_
 rintro e u' w'' ⟨rfl, rfl, rfl⟩
 refine leaves_cons (f := 139) (args := #[.pointer (some ⟨b, off + 1, none⟩)]) (by simp [settle]) (by simp [go_sem]) ?_
 refine (syUnlockD ⟨b, off + 1, none⟩ _ _ ?_ (by simp [z1])).mono ?_
 ·refine (World.cell?_setCell_other _ ⟨b, off, none⟩ ⟨b, off + 1, none⟩ _ (by simp)).trans ?_
  rw [World.cell?_drew]
  exact q1
 rintro e u' w'' ⟨rfl, rfl, rfl⟩
 refine ⟨.tuple #[], by simp [results, results128], rfl, w2, hQ, rfl⟩
set_option maxRecDepth 100000 in
set_option maxHeartbeats 1600000 in
/-- Once.Do, for the first time -/
theorem syDo1 (b off : Nat) (caps : Array Value) (Q : World → Prop) (w : World)
  (h0 : w.cell? ⟨b, off, none⟩ = some (.int .u32 0)) (h1 : w.cell? ⟨b, off + 1, none⟩ = some (.int .i32 0)) (f1 : w.frozen? ⟨b, off + 1, none⟩ = false)
  (hclo : Calls Tryz.prog 114 caps (w.setCell ⟨b, off + 1, none⟩ (.int .i32 1)) fun e w2 => e = .returned (.tuple #[]) ∧ Q w2)
  (hq : ∀ w2, Q w2 → w2.cell? ⟨b, off, none⟩ = some (.int .u32 0) ∧ w2.cell? ⟨b, off + 1, none⟩ = some (.int .i32 1) ∧ w2.frozen? ⟨b, off, none⟩ = false ∧ w2.frozen? ⟨b, off + 1, none⟩ = false) :
  Calls Tryz.prog 113 #[.pointer (some ⟨b, off, none⟩), .func (.func 114) #[] caps] w fun e w' => e = .returned (.tuple #[]) ∧ ∃ w2, Q w2 ∧ w' = (w2.drew.setCell ⟨b, off, none⟩ (.int .u32 1)).setCell ⟨b, off + 1, none⟩ (.int .i32 0) := by
 have hnot : ∀ (x : Bool) (w : World), (Op.unary .not (.bool x)).run Tryz.prog w = .ok (.bool (!x)) w := fun _ _ => rfl
 go_enter func113, ntmps113
 go_wp2_with (first | (go_at_call 127; refine (syLoadB ⟨b, off, none⟩ 0 _ h0).mono ?_; rintro e w' ⟨rfl, rfl⟩) | (go_at_call 128; refine (sySlow b off caps Q _ h0 h1 f1 hclo hq).mono ?_; rintro e w' ⟨rfl, w2, hQ, rfl⟩))
 go_end0
 exact ⟨rfl, w2, hQ, rfl⟩
theorem syDo2 (a : Addr) (fv : Value) (w : World) (h0 : w.cell? a = some (.int .u32 1)) :
  Calls Tryz.prog 113 #[.pointer (some a), fv] w fun e w' => e = .returned (.tuple #[]) ∧ w' = w := by
 have hnot : ∀ (x : Bool) (w : World), (Op.unary .not (.bool x)).run Tryz.prog w = .ok (.bool (!x)) w := fun _ _ => rfl
 go_enter func113, ntmps113
 go_wp2_with (go_at_call 127; refine (syLoadB a 1 _ h0).mono ?_; rintro e w' ⟨rfl, rfl⟩)
 go_end0
 exact ⟨rfl, rfl⟩
theorem syAddI (a : Addr) (x : Int) (w : World) (hx : 0 ≤ x ∧ x ≤ 1000000) (h0 : w.cell? a = some (.int .i64 x)) (hz : w.frozen? a = false) : Calls Tryz.prog 115 #[.pointer (some a), .int .i64 1] w fun e w' => e = .returned (.int .i64 (x + 1)) ∧ w' = w.setCell a (.int .i64 (x + 1)) := by
 have hadd := run_call_add (P := Tryz.prog) func129 ZK ZK ZK .i64 ZK (y := 1) (s := x + 1) h0 hz (by
  have e : IntKind.i64.wrap (x + 1) = x + 1 := Z0i ZO
  simp [Op.intArith, e])
 go_enter func115, ntmps115
 go_wp2
 go_ret
 exact ⟨rfl, rfl⟩
theorem run_load_ptr {f : FuncId} {fn : Func} {Pg : Program} (hf : Pg.funcs[f]? = some fn) (hname : (fn.name == "runtime.NumGoroutine") = false) (hb : fn.body.isNone = true) (hn : Extern.findNext fn = none)
  (he : Extern.find fn = some (Extern.Atomic.loadT .ptr)) {a : Addr} {x : Option Addr} {w : World} (hc : w.cell? a = some (.pointer x)) :
  (callFunc f #[.pointer (some a)]).run Pg w = .ok (.value (.pointer x)) w := by
 rw [run_callFunc_extern hf hname hb hn he]
 change (Sem.run Pg (do Extern.Atomic.read .ptr (← asAddr (.pointer (some a)))) w).andThen _ = _
 simp [Extern.Atomic.read, asAddr, hc, Result.andThen]
theorem run_store_ptr {f : FuncId} {fn : Func} {Pg : Program} (hf : Pg.funcs[f]? = some fn) (hname : (fn.name == "runtime.NumGoroutine") = false) (hb : fn.body.isNone = true) (hn : Extern.findNext fn = none)
  (he : Extern.find fn = some Extern.Atomic.storeT) {a : Addr} {y : Option Addr} {u : Value} {w : World} (hc : w.cell? a = some u) (hz : w.frozen? a = false) :
  (callFunc f #[.pointer (some a), .pointer y]).run Pg w = .ok (.value (.tuple #[])) (w.setCell a (.pointer y)) := by
 rw [run_callFunc_extern hf hname hb hn he]
 change (Sem.run Pg (do
  store (← asAddr (.pointer (some a))) (.pointer y) .atomic
  pure Extern.Atomic.none_) w).andThen _ = _
 simp [asAddr, hc, hz, run_store Pg w a (.pointer y) .atomic rfl, Result.andThen, Extern.Atomic.none_]
theorem cvFrom {pb : Nat} {v : Value} {w : World} (hb : w.heap[pb]? = some (.cells #[v] 188 (0, 0))) : (convert 58 56 (.pointer (some ⟨pb, 0, none⟩))).run Tryz.prog w = .ok (.pointer (some ⟨pb, 0, none⟩)) w := by
 have hsh : w.shape? pb = some (188, 1) := by simp [World.shape?, hb]
 have hl : liesAt Tryz.prog Tryz.prog.depth 188 (1 / Tryz.prog.cellsOf 188) 0 188 1 = true := by kernel_rfl
 obtain ⟨i, hi, hsz⟩ : ∃ i, Tryz.prog.info? 188 = some i ∧ i.size ≠ 0 := by
  have h : (Tryz.prog.info? 188).map (fun i => decide (i.size = 0)) = some false := by kernel_rfl
  obtain ⟨i, hi, h2⟩ := Option.map_eq_some_iff.1 h
  exact ⟨i, hi, by simpa using h2⟩
 simp [convert, Conv.unsafePointer, Conv.seenAt, viewAt, variablesAt, sizeOf, typeInfo, run_underlying underlying58, run_underlying underlying56, hi, hsz, hsh, hl, Result.andThen]
theorem cvNil {w : World} : (convert 58 56 (.pointer none)).run Tryz.prog w = .ok (.pointer none) w := by
 simp [convert, Conv.unsafePointer, run_underlying underlying58, run_underlying underlying56, Result.andThen]
theorem syLoadP0 (a : Addr) (w : World) (h0 : w.cell? a = some (.pointer none)) : Calls Tryz.prog 120 #[.pointer (some a)] w fun e w' => e = .returned (.pointer none) ∧ w' = w := by
 have hl := run_load_ptr (Pg := Tryz.prog) func134 ZK ZK ZK ZK h0
 have hcv := cvNil (w := w)
 go_enter func120, ntmps120
 go_wp2
 go_ret
 exact ⟨rfl, rfl⟩
theorem syLoadP (a : Addr) (pb : Nat) (v : Value) (w : World) (h0 : w.cell? a = some (.pointer (some ⟨pb, 0, none⟩))) (hb : w.heap[pb]? = some (.cells #[v] 188 (0, 0))) : Calls Tryz.prog 120 #[.pointer (some a)] w fun e w' => e = .returned (.pointer (some ⟨pb, 0, none⟩)) ∧ w' = w := by
 have hl := run_load_ptr (Pg := Tryz.prog) func134 ZK ZK ZK ZK h0
 have hcv := cvFrom hb
 go_enter func120, ntmps120
 go_wp2
 go_ret
 exact ⟨rfl, rfl⟩
theorem syStoreP (a : Addr) (pb : Nat) (v u : Value) (w : World) (h0 : w.cell? a = some u) (hz : w.frozen? a = false) (hb : w.heap[pb]? = some (.cells #[v] 188 (0, 0))) : Calls Tryz.prog 119 #[.pointer (some a), .pointer (some ⟨pb, 0, none⟩)] w fun e w' => e = .returned (.tuple #[]) ∧ w' = w.setCell a (.pointer (some ⟨pb, 0, none⟩)) := by
 have hst := run_store_ptr (Pg := Tryz.prog) func133 ZK ZK ZK ZK (y := some ⟨pb, 0, none⟩) h0 hz
 have hcv := run_convert_to_unsafe (P := Tryz.prog) (src := 56) (dst := 58) underlying56 underlying58 ZK (a := ⟨pb, 0, none⟩) (v := v) (w := w) (by rw [cell_of_row w pb 0 #[v] 188 (0, 0) hb]; rfl)
 go_enter func119, ntmps119
 go_wp2
 go_end0
 exact ⟨rfl, rfl⟩
section
variable {P : Program} {N : Nat} {ρ : Env} {w w0 : World} {Q : Z1L} {ops : Array Oper} {rest : List Oper} {d : Nat} {ty : TypeId} {pos : String} {af : Array Edge} {g : Option (Nat × Bool)} {B : Nat} {M : Nat → Prop} {σ σ' : List As}
theorem l_indexAn {x ix : Operand} {k : IntKind} {i : Int} {j m b n : Nat} {T e : TypeId} (hg : Z0s ops ρ g = true) (hN : Nat.blt d N = true) (hT : P.underlying T = some (.array m e)) (hsz : (P.info? e).map (·.size) = some n)
  (hx : Z0j ρ x = some (.pointer (some ⟨b, 0, none⟩))) (hi : Z0j ρ ix = some (.int k i)) (hij : i = (j : Int)) (hb : j < m)
  (nx : RunL P N ops Q rest ((d, .pointer (some ⟨b, j * n, none⟩)) :: ρ) w) : RunL P N ops Q (⟨some d, .indexAddr T x ix, ty, pos, af, g⟩ :: rest) ρ w := by
 subst hij
 exact Z10 hg rfl hN (fun a ha => by
  cases hq : P.info? e with
  | none => simp [hq] at hsz
  | some inf =>
   have h1 : inf.size = n := by simpa [hq] using hsz
   have h2 : (⟨b, 0, none⟩ : Addr).add (j * n) = ⟨b, j * n, none⟩ := by rw [Z1P, Nat.zero_add]
   simp [execOp, ha.eval hx, ha.eval hi, Instr.indexAt, Instr.sureAddr, asIntOf, run_underlying hT, hb, sizeOf, typeInfo, hq, h1, h2]) nx
theorem l_eqlp {x y : Operand} {p : Option Addr} {T U : TypeId} (hT : P.underlying T = some (.pointer (P.pointee T))) (hg : Z0s ops ρ g = true) (hN : Nat.blt d N = true) (hx : Z0j ρ x = some (.pointer p)) (hy : Z0j ρ y = some (.pointer none)) (n : RunL P N ops Q rest ((d, .bool (decide (p.isNone = true))) :: ρ) w) : RunL P N ops Q (⟨some d, .binOp .eql T x y U, ty, pos, af, g⟩ :: rest) ρ w :=
 Z10 hg rfl hN (fun a ha => by
  have hgd : (eqGuard .eql T x y (.pointer p) (.pointer none)).run P w = .ok () w := by simp [eqGuard]
  simp only [execOp, ha.eval hx, ha.eval hy, Sem.run_bind, hgd, Result.andThen_ok]
  rw [run_eql_pointer_nil _ T p hT]
  cases p <;> rfl) n
theorem Z48 {b o : Nat} {E : TypeId} {cs : List Value} {x : Value} (hw : St w0 B M σ w) (u : Upd σ (As.blk b E cs) (As.blk b E (cs.set o x)) σ') : St w0 B M σ' (w.setCell ⟨b, o, none⟩ x) := by
 have hb : w.heap[b]? = some (.cells cs.toArray E (0, 0)) := hw.ok u.mem
 refine hw.upd u ⟨rfl, rfl, rfl, by simp [World.setCell], fun k hk hm => Below.heap_setCell _ _ _ _ (fun e => hm (by subst e; rfl))⟩ ?_ ?_
 ·show (w.setCell ⟨b, o, none⟩ x).heap[b]? = _
  simp [World.setCell, Array.getElem?_modify, hb]
 intro k hk
 have : k = b := hk
 subst this
 exact ⟨.inl rfl, by simpa [World.setCell] using (Array.getElem?_eq_some_iff.1 hb).1⟩
theorem Z1s {b o : Nat} {E : TypeId} {cs : List Value} {v : Value} (h : (As.blk b E cs).ok w) (hv : cs[o]? = some v) : w.cell? ⟨b, o, none⟩ = some v ∧ w.frozen? ⟨b, o, none⟩ = false := by
 have hb : w.heap[b]? = some (.cells cs.toArray E (0, 0)) := h
 exact ⟨by rw [cell_of_row w b _ cs.toArray E (0, 0) hb]; simpa using hv, by simp [World.frozen?, hb]⟩
theorem many_iff {τ τ' : List As} (h : St w0 B M (As.many τ :: σ) w) (hm : ∀ A, A ∈ τ' ↔ A ∈ τ) : St w0 B M (As.many τ' :: σ) w := by
 refine h.as .head (fun k hk => ?_) (fun w hw A hA => hw A ((hm A).1 hA))
 obtain ⟨A, hA, hk⟩ := hk
 exact ⟨A, (hm A).1 hA, hk⟩
end
theorem syAddR {b o : Nat} {E : TypeId} {cs : List Value} {x : Int} {w : World} (hx : 0 ≤ x ∧ x ≤ 1000000) (h : (As.blk b E cs).ok w) (hc : cs[o]? = some (.int .i64 x)) : Z0h P 115 [.pointer (some ⟨b, o, none⟩), .int .i64 1] w fun r w' => r = .int .i64 (x + 1) ∧ Turn w w' (As.blk b E cs) (As.blk b E (cs.set o (.int .i64 (x + 1)))) :=
 Calls.mono (syAddI ⟨b, o, none⟩ x w hx (Z1s h hc).1 (Z1s h hc).2) fun e w' ⟨h1, h2⟩ => ⟨_, h1, rfl, fun w0 B M σ σ' u hw => h2 ▸ Z48 hw u⟩
theorem syLoadPR0 {b o : Nat} {E : TypeId} {cs : List Value} {w : World} (h : (As.blk b E cs).ok w) (hc : cs[o]? = some (.pointer none)) : Z0h P 120 [.pointer (some ⟨b, o, none⟩)] w fun r w' => r = .pointer none ∧ w = w' :=
 Calls.mono (syLoadP0 ⟨b, o, none⟩ w (Z1s h hc).1) fun e w' ⟨h1, h2⟩ => ⟨_, h1, rfl, h2.symm⟩
theorem syLoadPR {b o pb : Nat} {E : TypeId} {cs : List Value} {v : Value} {w : World} (h : (As.blk b E cs).ok w) (hc : cs[o]? = some (.pointer (some ⟨pb, 0, none⟩))) (hb : (As.blk pb 188 [v]).ok w) : Z0h P 120 [.pointer (some ⟨b, o, none⟩)] w fun r w' => r = .pointer (some ⟨pb, 0, none⟩) ∧ w = w' :=
 Calls.mono (syLoadP ⟨b, o, none⟩ pb v w (Z1s h hc).1 hb) fun e w' ⟨h1, h2⟩ => ⟨_, h1, rfl, h2.symm⟩
theorem syStorePR {b o pb : Nat} {E : TypeId} {cs : List Value} {u v : Value} {w : World} (h : (As.blk b E cs).ok w) (hc : cs[o]? = some u) (hb : (As.blk pb 188 [v]).ok w) : Z0h P 119 [.pointer (some ⟨b, o, none⟩), .pointer (some ⟨pb, 0, none⟩)] w fun r w' => r = .tuple #[] ∧ Turn w w' (As.blk b E cs) (As.blk b E (cs.set o (.pointer (some ⟨pb, 0, none⟩)))) :=
 Calls.mono (syStoreP ⟨b, o, none⟩ pb v u w (Z1s h hc).1 (Z1s h hc).2 hb) fun e w' ⟨h1, h2⟩ => ⟨_, h1, rfl, fun w0 B M σ σ' u hw => h2 ▸ Z48 hw u⟩
def expF (q : Int) : Int := if q < 0 then -128 - (-q * 1217359) / 524288 else q * 1217359 / 524288 - 127
theorem exp_all : ∀ i : Fin 651, expF ((i.val : Int) - 342) = (entS ((i.val : Int) - 342)).2.1 := by decide +kernel
theorem exp_is {q : Int} (hq : -342 ≤ q ∧ q ≤ 308) : expF q = (entS q).2.1 := by
 have := exp_all ⟨(q + 342).toNat, ZO⟩
 rw [show (((q + 342).toNat : Nat) : Int) - 342 = q by omega] at this
 exact this
abbrev entW (q : Int) : List Value := wrow (entS q).1 ++ [.int .i64 (entS q).2.1]
def entR (s : Int) : List (List Value) := (List.range (Z0P s).2.1.toNat).map fun i : Nat => entW ((Z0P s).1 + (i : Int))
theorem entR_at (s : Int) (i : Nat) (h : i < (Z0P s).2.1.toNat) : (entR s)[i]? = some (entW ((Z0P s).1 + i)) := by simp [entR, h]
theorem entR_len (s : Int) : (entR s).length = (Z0P s).2.1.toNat := by simp [entR]
theorem entR_rows (s : Int) : Z19 3 (entR s) := fun r hr => by
 obtain ⟨i, _, rfl⟩ := List.mem_map.1 hr
 exact ⟨rfl, by simp [Value.oneCell']⟩
theorem entR_eq {rs : List (List Value)} {s : Int} (hl : rs.length = (Z0P s).2.1.toNat) (h : ∀ j : Nat, j < rs.length → rs[j]? = some (entW ((Z0P s).1 + j))) : rs = entR s := by
 apply List.ext_getElem?
 intro j
 by_cases hj : j < rs.length
 ·rw [h j hj, entR_at s j ZO]
 rw [List.getElem?_eq_none ZO, List.getElem?_eq_none (by rw [entR_len]; omega)]
theorem exponentC (q : Int) (hq : -342 ≤ q ∧ q ≤ 308) (w : World) :
  Z0h P 118 [.int .i64 q] w fun r w' => r = .int .i64 (entS q).2.1 ∧ w = w' := by
 refine Z0n func118 rfl ntmps118 rfl ?_
 have he := exp_is hq
 unfold expF at he
 refine Z03 (Z00 (Zg (Z02 (Z01 (Z03 (Z03 (Z00 (Zm ?_))))))))
 refine Zl ?_
 refine Z02 (Z01 ?_)
 refine Zk [0, 4] ?_
 (first | refine Z0a rfl ?_ ?_ | refine Z06 rfl ?_ ?_) <;> intro hc0
 ·refine Z03 (Z00 (Zm ?_))
  refine Z1K rfl rfl rfl (Z0i ZO) ?_
  refine Z1l rfl rfl rfl rfl (Z0i ZO) ?_
  refine Z1n rfl rfl rfl rfl ZO (Z1g (d := 524288) (by decide) (by decide)) ?_
  refine Z0A rfl rfl rfl rfl (Z0i ZO) ?_
  refine Zg (Z02 (Z01 ?_))
  refine Z0f ?_
  refine Z05 ?_
  refine Z0q results118 rfl ?_
  refine ⟨_, rfl, ?_⟩
  rw [if_pos hc0] at he
  exact ⟨congrArg (Value.int .i64) (by rw [← he, show -q = 0 - q by omega]), rfl⟩
 refine Z0c (Z01 ?_)
 refine Zk [0] ?_
 refine Z03 (Z00 (Zm ?_))
 refine Z1l rfl rfl rfl rfl (Z0i ZO) ?_
 refine Z1n rfl rfl rfl rfl ZO (Z1g (d := 524288) (by decide) (by decide)) ?_
 refine Z0A rfl rfl rfl rfl (Z0i ZO) ?_
 refine Zg (Z02 (Z01 ?_))
 refine Z0f ?_
 refine Z0q results118 rfl ?_
 refine ⟨_, rfl, ?_⟩
 rw [if_neg hc0] at he
 exact ⟨congrArg (Value.int .i64) he, rfl⟩
theorem closC (kp ks b o : Nat) (s : Int) (cs : List Value) (hs : 0 ≤ s ∧ s ≤ 40) (hc3 : cs[o + 3]? = some (.int .i64 0)) (hc4 : cs[o + 4]? = some (.pointer none)) (w : World) (hS : Sep w.heap.size (fps [As.blk kp 204 [.pointer (some ⟨b, o, none⟩)], As.blk ks 3 [.int .i64 s], As.blk b 65 cs]) w [As.blk kp 204 [.pointer (some ⟨b, o, none⟩)], As.blk ks 3 [.int .i64 s], As.blk b 65 cs]) :
  Z0h P 114 [.pointer (some ⟨kp, 0, none⟩), .pointer (some ⟨ks, 0, none⟩)] w fun r w' => ∃ rb v, r = .tuple #[] ∧ Z2E w w' [As.blk kp 204 [.pointer (some ⟨b, o, none⟩)], As.blk ks 3 [.int .i64 s], As.blk b 65 cs] [As.blk kp 204 [.pointer (some ⟨b, o, none⟩)], As.blk ks 3 [.int .i64 s], As.blk b 65 ((cs.set (o + 3) (.int .i64 1)).set (o + 4) (.pointer (some ⟨rb, 0, none⟩))), As.blk rb 188 [v], As.rk 187 3 v (entR s)] := by
 refine Z0n func114 rfl ntmps114 rfl ?_
 have H0 := St.startS hS
 have H0 : St w w.heap.size (fps [As.blk kp 204 [.pointer (some ⟨b, o, none⟩)], As.blk ks 3 [.int .i64 s], As.blk b 65 cs]) [As.blk kp 204 [.pointer (some ⟨b, o, none⟩)], As.blk ks 3 [.int .i64 s], As.blk b 65 cs] w := H0
 have hfe : Z0P s = (-342 + 16 * s, if s = 40 then 11 else 16, 0) := by unfold Z0P; rw [if_neg ZO]
 obtain ⟨q, hqd⟩ : ∃ q : Int, (Z0P s).1 = q := ⟨_, rfl⟩
 obtain ⟨nn, hnd⟩ : ∃ nn : Nat, (Z0P s).2.1 = (nn : Int) := ⟨(Z0P s).2.1.toNat, by rw [hfe]; dsimp only; split <;> omega⟩
 have hq1 : q = -342 + 16 * s := by rw [← hqd, hfe]
 have hn1 : (nn : Int) = if s = 40 then 11 else 16 := by rw [← hnd, hfe]
 have hnb : 11 ≤ nn ∧ nn ≤ 16 ∧ q + nn ≤ 309 := by split at hn1 <;> omega
 have hsl : (segR s).length = nn := by rw [segR_len, hnd]; omega
 have hse : ∀ j : Nat, j < nn → (segR s)[j]? = some (wrow (entS (q + j)).1) := fun j hj => by rw [segR_at s j ZO, hqd]
 have hsr := segR_rows s
 refine Z03 (Z00 ?_)
 refine Z04 H0 mem0 rfl rfl underlying204 rfl rfl rfl ?_
 refine Z0N rfl rfl rfl (Z08 fo62_1 rfl rfl rfl ?_)
 refine Z0J rfl rfl func115 rfl rfl (.cons rfl (.cons rfl .nil)) (syAddR (x := 0) ZO (H0.ok mem2) hc3) ?_
 rintro _ w1 ⟨_, hT⟩
 have H1 := hT _ _ _ _ _ (.tail (.tail .head)) H0
 refine Z02 (Z01 (Z03 (Z00 ?_)))
 refine Z04 H1 mem1 rfl rfl underlying3 rfl rfl rfl ?_
 refine Z0Q rfl rfl func116 rfl rfl (.cons rfl .nil) (firstP s ZO _) ?_
 rw [hqd]
 refine Zm ?_
 refine Zx (Zx (Zx (Zg (Zg (Zg (Z02 (Z01 ?_)))))))
 refine Zk [0, 1, 2] ?_
 refine Z03 (Z00 ?_)
 refine Z04 H1 mem1 rfl rfl underlying3 rfl rfl rfl ?_
 refine Z0J rfl rfl func117 rfl rfl (.cons rfl .nil) (segP s ZO w1) ?_
 rintro _ w2 ⟨vw, rfl, hG⟩
 have H2 := hG _ _ _ _ H1
 simp only [Zca, Zna] at H2
 refine Zm ?_
 refine Zx (Zx (Zg (Zg (Z02 (Z01 (Z03 (Z00 (Zm ?_))))))))
 refine k_len rfl rfl underlying207 rfl (by first | exact H2.ik ZA mem0 | exact H2.ibl mem1 | exact H2.ibl mem2 | exact H2.ibl mem3 | assumption) ?_
 refine k_make (m := nn) (c := nn) H2 rfl rfl underlying188 ti187 rfl (by decide) (by simp [Value.oneCell']) rfl rfl ZO ZO ZO ZO (by simp only [maxLen]; omega) ZO (fun v3_2 w3 H3 => ?_)
 refine Z0z H3 ta188 rfl rfl (fun b3_3 w4 H4 => ?_)
 have h32 : v3_2.oneCell' = true := by
  obtain ⟨_, A, c, e, _⟩ := H4.ik (Z19.rep (k := 3) (z := [.int .u64 0, .int .u64 0, .int .i64 0]) rfl (by simp [Value.oneCell']) nn) (.tail _ (.head _))
  rw [e]
  rfl
 refine Z0p H4 .head (by repeat (first | exact .zero | apply Z14.succ)) rfl tz188 rfl rfl ZR (fun w5 H5 => ?_)
 refine Z02 (Z01 ?_)
 refine Zk [0, 2, 5, 7] ?_
 refine Z03 (Z03 (Z00 (Zm ?_)))
 refine k_len rfl rfl underlying207 rfl (by first | exact H5.ibl mem0 | exact H5.ik ZA mem1 | exact H5.ik ZA mem2 | exact H5.ibl mem3 | exact H5.ibl mem4 | exact H5.ibl mem5 | assumption) ?_
 refine Zm (Z02 (Z01 (Z0e ?_)))
 refine Z0y (ι := Nat × List (List Value)) (fun (z0 : Nat × List (List Value)) => match z0 with | ⟨i, rs⟩ => nn - i) (fun (z0 : Nat × List (List Value)) (w' : World) => match z0 with | ⟨i, rs⟩ => St w w.heap.size (fps [As.blk kp 204 [.pointer (some ⟨b, o, none⟩)], As.blk ks 3 [.int .i64 s], As.blk b 65 cs]) ([As.blk b3_3 188 [v3_2], As.rk 187 3 v3_2 rs, As.rk 154 2 vw (segR s), As.blk kp 204 [.pointer (some ⟨b, o, none⟩)], As.blk ks 3 [.int .i64 s], As.blk b 65 (cs.set (o + 3) (.int .i64 1))]) w' ∧ i ≤ nn ∧ rs.length = nn ∧ Z19 3 rs ∧ ∀ j : Nat, j < i → rs[j]? = some (entW (q + j))) (fun (z0 : Nat × List (List Value)) => match z0 with | ⟨i, rs⟩ => [(30, .int .i64 (i : Int))]) [0, 2, 7, 28, 29] (0, List.replicate nn [.int .u64 0, .int .u64 0, .int .i64 0]) ?_ (.cons rfl (.cons rfl (.cons rfl (.cons rfl (.cons rfl .nil))))) ?_ ?_
 ·exact ⟨H5, ZO, by simp, Z19.rep rfl (by simp [Value.oneCell']) _, fun j h => by omega⟩
 ·exact (.cons rfl ZN .nil)
 rintro ⟨i, rs⟩ w6 ⟨H6, hi, hrl, hRs, hrow⟩
 show RunC P _ _ _ (_ :: _) _
 refine Z03 (Z00 ?_)
 refine Zl ?_
 refine Z02 (Z01 (Z03 ?_))
 (first | refine Z0a rfl ?_ ?_ | refine Z06 rfl ?_ ?_) <;> intro hc0
 ·refine Z0c (Z01 ?_)
  refine Zk [0, 2, 7, 28, 29, 30] ?_
  refine Z03 (Z0e (Z03 (Z00 ?_)))
  have hi1 : i < nn := by omega
  refine Zm ?_
  refine Z4o (j := i) rfl rfl underlying207 Z1u (by decide) rfl rfl (by first | exact H6.ibl mem0 | exact H6.ik ZA mem1 | exact H6.ik ZA mem2 | exact H6.ibl mem3 | exact H6.ibl mem4 | exact H6.ibl mem5 | assumption) ZP ZI (fun ad6_1 ac6_1 hA6_1 => ?_)
  refine k_load (j := i) rfl rfl underlying154 rfl Z1u rfl hA6_1 (by first | exact H6.ibl mem0 | exact H6.ik ZA mem1 | exact H6.ik ZA mem2 | exact H6.ibl mem3 | exact H6.ibl mem4 | exact H6.ibl mem5 | assumption) (hse i hi1) ?_
  refine Z0z H6 ta154 rfl rfl (fun b6_3 w7 H7 => ?_)
  refine Zg ?_
  refine Z09 H7 .head (.zero (.zero .nil)) rfl Z1u rfl rfl ZC (fun w8 H8 => ?_)
  refine Z02 (Z01 ?_)
  refine c_tail 9 ZK ZK ?_
  have H9 := H8.drewn
  refine Z04 H9 mem1 rfl rfl underlying188 rfl rfl rfl ?_
  refine Zm ?_
  refine Z0b H9 mem0 rfl rfl underlying154 rfl Z1u rfl (.take (.take .nil)) ?_
  refine Zm (Zm ?_)
  refine Z0w rfl rfl rfl rfl (Z0i ZO) ?_
  refine Z0Q rfl rfl func118 rfl rfl (.cons rfl .nil) (exponentC (q + i) ZO _) ?_
  refine Z0D rfl rfl pl187 ta187 (.row rfl rfl rfl (.zero (.zero .nil)) (.one rfl rfl ZR (.succ (.succ .zero)) .nil)) ?_
  refine Z4o (j := i) rfl rfl underlying188 tz187 (by decide) rfl rfl (by first | exact H9.ibl mem0 | exact H9.ibl mem1 | exact H9.ik ZA mem2 | exact H9.ik ZA mem3 | exact H9.ibl mem4 | exact H9.ibl mem5 | exact H9.ibl mem6 | assumption) ZP ZI (fun ad7_8 ac7_8 hA7_8 => ?_)
  refine Z02 ?_
  refine e_tail ?_
  refine k_store (j := i) H9 (.tail (.tail .head)) ZA (by decide) hA7_8 rfl tz187 rfl rfl rfl ZI ZC (fun w10 H10 => ?_)
  refine Z02 ?_
  refine Z0C ?_
  refine Z01 ?_
  refine Zk [0, 2, 7, 28, 29, 30] ?_
  refine Z00 ?_
  refine Z0w rfl rfl rfl rfl (Z0i ZO) ?_
  refine Zm (Z02 ?_)
  have H11 := St.del .head H10
  refine Z0r (i := (i, rs)) (i + 1, rs.set i (entW (q + i))) ?_ ?_ (.cons rfl (.cons rfl (.cons rfl (.cons rfl (.cons rfl .nil))))) ?_
  ·first | omega | (simp; omega)
  ·refine ⟨H11, ZO, by simpa using hrl, hRs.set rfl (by simp [Value.oneCell']) _, fun j h => ?_⟩
   rw [Z4U ZO]
   split
   ·rename_i h3; rw [h3]
   exact hrow j ZO
  exact (.cons rfl ZN .nil)
 refine Z0E ?_
 refine Z07 ?_
 refine Z07 ?_
 refine Z0l ?_
 refine Z01 (Z00 ?_)
 refine Z04 H6 mem3 rfl rfl underlying204 rfl rfl rfl ?_
 refine Z0N rfl rfl rfl (Z08 fo62_2 rfl rfl rfl ?_)
 refine Z0J rfl rfl func119 rfl rfl (.cons rfl (.cons rfl .nil)) (syStorePR (u := .pointer none) (v := v3_2) (H6.ok mem5) (by rw [List.getElem?_set_ne ZO]; exact hc4) (H6.ok mem0)) ?_
 rintro _ w12 ⟨_, hT⟩
 have H12 := hT _ _ _ _ _ (.tail (.tail (.tail (.tail (.tail .head))))) H6
 refine Z02 ?_
 try dsimp only
 refine Z3i results114 ?_
 refine ⟨_, rfl, ?_⟩
 have H18 := St.del (.tail (.tail (.tail (.tail (.tail .head))))) (St.front5 (St.front5 (St.front5 (St.front1 (St.front1 H12)))))
 obtain rfl : i = nn := by omega
 have es : rs = entR s := entR_eq (by rw [hnd]; omega) (fun j hj => by rw [hqd]; exact hrow j ZO)
 rw [es] at H18
 exact ⟨b3_3, v3_2, rfl, (H18.cast rfl).transS⟩
abbrev Cac := List (Option (Nat × Value))
def Z4p (x : Option (Nat × Value)) : List Value := match x with
 | none => [.int .u32 0, .int .i32 0, .int .u32 0, .int .i64 0, .pointer none]
 | some y => [.int .u32 1, .int .i32 0, .int .u32 0, .int .i64 1, .pointer (some ⟨y.1, 0, none⟩)]
def cacC (L : Cac) : List Value := (L.map Z4p).flatten
theorem pieceC_rows (L : Cac) : Z19 5 (L.map Z4p) := fun r hr => by
 obtain ⟨x, _, rfl⟩ := List.mem_map.1 hr
 cases x <;> exact ⟨rfl, by simp [Z4p, Value.oneCell']⟩
theorem Z2g {L : Cac} {s : Nat} {x : Option (Nat × Value)} (h : L[s]? = some x) (i : Nat) (hi : i < 5) : (cacC L)[s * 5 + i]? = (Z4p x)[i]? :=
 (pieceC_rows L).at s (Z4p x) (by simp [h]) i hi
theorem Z4T (L : Cac) : (cacC L).length = L.length * 5 := by
 unfold cacC
 rw [(pieceC_rows L).len, List.length_map]
theorem cacC_set {L : Cac} {s p : Nat} {v : Value} (h : L[s]? = some none) :
  cacC (L.set s (some (p, v))) = (((((cacC L).set (s * 5 + 1) (.int .i32 1)).set (s * 5 + 3) (.int .i64 1)).set (s * 5 + 4) (.pointer (some ⟨p, 0, none⟩))).set (s * 5) (.int .u32 1)).set (s * 5 + 1) (.int .i32 0) := by
 have hs : s < L.length := (List.getElem?_eq_some_iff.1 h).1
 have hlen := Z4T L
 apply List.ext_getElem?
 intro j
 rcases Nat.lt_or_ge j (L.length * 5) with hj | hj
 ·obtain ⟨t, i, hi, rfl⟩ : ∃ t i, i < 5 ∧ j = t * 5 + i := ⟨j / 5, j % 5, ZO, ZO⟩
  have ht : t < L.length := by omega
  by_cases e : t = s
  ·subst e
   rw [Z2g (x := some (p, v)) (by simp [hs]) i hi]
   have h5 := Z2g h i hi
   simp only [List.getElem?_set, List.length_set]
   have : i = 0 ∨ i = 1 ∨ i = 2 ∨ i = 3 ∨ i = 4 := by omega
   rcases this with rfl | rfl | rfl | rfl | rfl <;> simp [Z4p, hlen] at h5 ⊢ <;> first | omega | (rw [h5]; done) | skip
  obtain ⟨x, hx⟩ : ∃ x, L[t]? = some x := ⟨L[t], by simp [ht]⟩
  rw [Z2g (x := x) (by rw [List.getElem?_set_ne ZO]; exact hx) i hi]
  rw [List.getElem?_set_ne ZO, List.getElem?_set_ne ZO, List.getElem?_set_ne ZO, List.getElem?_set_ne ZO, List.getElem?_set_ne ZO, Z2g hx i hi]
 rw [List.getElem?_eq_none (by rw [Z4T, List.length_set]; omega), List.getElem?_eq_none (by simp only [List.length_set]; omega)]
def inR1 (s : Nat) (x : Option (Nat × Value)) : List As := match x with
 | none => []
 | some y => [As.blk y.1 188 [y.2], As.rk 187 3 y.2 (entR s)]
def inR (L : Cac) : List As := (L.mapIdx inR1).flatten
theorem Z3s {L : Cac} {A : As} : A ∈ inR L ↔ ∃ s x, L[s]? = some x ∧ A ∈ inR1 s x := by
 unfold inR
 rw [List.mem_flatten]
 constructor
 ·rintro ⟨l, hl, hA⟩
  obtain ⟨s, hs, rfl⟩ := List.mem_iff_getElem.1 hl
  rw [List.length_mapIdx] at hs
  exact ⟨s, L[s], by simp [hs], by simpa using hA⟩
 rintro ⟨s, x, hx, hA⟩
 obtain ⟨hs, rfl⟩ := List.getElem?_eq_some_iff.1 hx
 exact ⟨_, List.mem_iff_getElem.2 ⟨s, by simpa using hs, by simp⟩, hA⟩
theorem inR_set {L : Cac} {s p : Nat} {v : Value} (h : L[s]? = some none) (A : As) : A ∈ inR (L.set s (some (p, v))) ↔ A ∈ inR L ++ [As.blk p 188 [v]] ++ [As.rk 187 3 v (entR s)] := by
 have hs : s < L.length := (List.getElem?_eq_some_iff.1 h).1
 rw [Z3s]
 simp only [List.mem_append, List.mem_singleton, Z3s]
 constructor
 ·rintro ⟨t, x, hx, hA⟩
  by_cases e : t = s
  ·subst e
   obtain rfl : some (p, v) = x := by simpa [hs] using hx
   simp only [inR1, List.mem_cons, List.not_mem_nil, or_false] at hA
   rcases hA with h1 | h1
   ·exact .inl (.inr h1)
   exact .inr h1
  rw [List.getElem?_set_ne ZO] at hx
  exact .inl (.inl ⟨t, x, hx, hA⟩)
 rintro ((⟨t, x, hx, hA⟩ | h1) | h1)
 ·by_cases e : t = s
  ·subst e
   obtain rfl : none = x := by rw [h] at hx; exact Option.some.inj hx
   simp [inR1] at hA
  exact ⟨t, x, by rw [List.getElem?_set_ne ZO]; exact hx, hA⟩
 ·exact ⟨s, some (p, v), by simp [hs], by simp [inR1, h1]⟩
 exact ⟨s, some (p, v), by simp [hs], by simp [inR1, h1]⟩
def CacS (L : Cac) (s : Nat) (L' : Cac) (p : Nat) (v : Value) : Prop := L'[s]? = some (some (p, v)) ∧ (L' = L ∨ (L[s]? = some none ∧ L' = L.set s (some (p, v))))
theorem CacS.len {L L' : Cac} {s p : Nat} {v : Value} (h : CacS L s L' p v) : L'.length = L.length := by
 rcases h.2 with rfl | ⟨_, rfl⟩
 ·rfl
 simp
abbrev dcR (kp ks b s : Nat) (L : Cac) : List As := [As.blk kp 204 [.pointer (some ⟨b, s * 5, none⟩)], As.blk ks 3 [.int .i64 (s : Int)], As.blk b 65 (cacC L), As.many (inR L)]
theorem doC (L : Cac) (hL : L.length = 41) (s : Nat) (hs : s < 41) (kp ks b : Nat) (w : World) (hS : Sep w.heap.size (fps (dcR kp ks b s L)) w (dcR kp ks b s L)) :
  Z0h P 113 [.pointer (some ⟨b, s * 5, none⟩), .func (.func 114) #[] #[.pointer (some ⟨kp, 0, none⟩), .pointer (some ⟨ks, 0, none⟩)]] w fun r w' => r = .tuple #[] ∧ ∃ L' p v, CacS L s L' p v ∧ Z2E w w' (dcR kp ks b s L) (dcR kp ks b s L') := by
 obtain ⟨x, hx⟩ : ∃ x, L[s]? = some x := ⟨L[s], by simp [hL, hs]⟩
 have hw : St w w.heap.size (fps (dcR kp ks b s L)) (dcR kp ks b s L) w := St.startS hS
 have hbk : (As.blk b 65 (cacC L)).ok w := hw.ok (.tail _ (.tail _ (.head _)))
 have c0 := Z2g hx 0 ZO
 have c1 := Z2g hx 1 ZO
 have c3 := Z2g hx 3 ZO
 have c4 := Z2g hx 4 ZO
 rw [Nat.add_zero] at c0
 rcases x with _ | ⟨p, v⟩
 ·-- built now
  have hl := Z4T L
  have hb0 := Z1s hbk (show (cacC L)[s * 5]? = some (.int .u32 0) from c0)
  have hb1 := Z1s hbk (show (cacC L)[s * 5 + 1]? = some (.int .i32 0) from c1)
  let cs1 := (cacC L).set (s * 5 + 1) (.int .i32 1)
  have turn : ∀ (w0 : World) (B : Nat) (M : Nat → Prop) (σ : List As), St w0 B M (dcR kp ks b s L ++ σ) w → St w0 B M ([As.blk kp 204 [.pointer (some ⟨b, s * 5, none⟩)], As.blk ks 3 [.int .i64 (s : Int)], As.blk b 65 cs1] ++ (As.many (inR L) :: σ)) (w.setCell ⟨b, s * 5 + 1, none⟩ (.int .i32 1)) := fun w0 B M σ h =>
   Z48 h (.tail (.tail .head))
  have H1 := turn _ _ _ [] (by simpa using hw)
  have hc3 : cs1[s * 5 + 3]? = some (.int .i64 0) := by
   show ((cacC L).set (s * 5 + 1) (.int .i32 1))[s * 5 + 3]? = _
   rw [List.getElem?_set_ne ZO]
   exact c3
  have hc4 : cs1[s * 5 + 4]? = some (.pointer none) := by
   show ((cacC L).set (s * 5 + 1) (.int .i32 1))[s * 5 + 4]? = _
   rw [List.getElem?_set_ne ZO]
   exact c4
  have hclo := closC kp ks b (s * 5) (s : Int) cs1 ZO hc3 hc4 _ (St.rows H1)
  refine Calls.mono (syDo1 b (s * 5) #[.pointer (some ⟨kp, 0, none⟩), .pointer (some ⟨ks, 0, none⟩)] (fun w2 => ∃ rb v, Z2E (w.setCell ⟨b, s * 5 + 1, none⟩ (.int .i32 1)) w2 [As.blk kp 204 [.pointer (some ⟨b, s * 5, none⟩)], As.blk ks 3 [.int .i64 (s : Int)], As.blk b 65 cs1] [As.blk kp 204 [.pointer (some ⟨b, s * 5, none⟩)], As.blk ks 3 [.int .i64 (s : Int)], As.blk b 65 ((cs1.set (s * 5 + 3) (.int .i64 1)).set (s * 5 + 4) (.pointer (some ⟨rb, 0, none⟩))), As.blk rb 188 [v], As.rk 187 3 v (entR s)]) w hb0.1 hb1.1 hb1.2 (Calls.mono hclo fun e w2 he => ?_) ?_) fun e w' he => ?_
  ·obtain ⟨_, rfl, rb, v, rfl, hT⟩ := he
   exact ⟨rfl, rb, v, hT⟩
  ·rintro w2 ⟨rb, v, hT⟩
   have H2 := hT _ _ _ _ H1
   have hk := H2.ok (.tail _ (.tail _ (.head _)))
   have k0 := Z1s hk (o := s * 5) (v := .int .u32 0) (by
    rw [List.getElem?_set_ne ZO, List.getElem?_set_ne ZO]
    show ((cacC L).set (s * 5 + 1) (.int .i32 1))[s * 5]? = _
    rw [List.getElem?_set_ne ZO]
    exact c0)
   have k1 := Z1s hk (o := s * 5 + 1) (v := .int .i32 1) (by
    rw [List.getElem?_set_ne ZO, List.getElem?_set_ne ZO]
    show ((cacC L).set (s * 5 + 1) (.int .i32 1))[s * 5 + 1]? = _
    rw [List.getElem?_set_self ZO])
   exact ⟨k0.1, k1.1, k0.2, k1.2⟩
  obtain ⟨rfl, w2, ⟨rb, v, hT⟩, rfl⟩ := he
  refine ⟨_, rfl, rfl, L.set s (some (rb, v)), rb, v, ⟨by simp [hL, hs], .inr ⟨hx, rfl⟩⟩, fun w0 B M σ h => ?_⟩
  have h2 := hT _ _ _ _ (turn _ _ _ _ h)
  have h3 := Z48 (o := s * 5) (x := .int .u32 1) h2.drewn (.tail (.tail .head))
  have h4 := Z48 (o := s * 5 + 1) (x := .int .i32 0) h3 (.tail (.tail .head))
  have h5 := St.frontL (l := [_, _, _, _, _]) h4
  have h6 := many_in (St.frontL (l := [_, _, _, _]) h5)
  have h7 := many_in (St.frontL (l := [_, _, _, _]) h6)
  have h8 := many_iff h7 (τ' := inR (L.set s (some (rb, v)))) (inR_set hx)
  have h9 := St.frontL (l := [_, _, _]) h8
  have h10 := St.frontL (l := [_, _, _]) h9
  have h11 := St.frontL (l := [_, _, _]) h10
  unfold dcR
  rw [cacC_set hx]
  exact h11
 have hb0 := Z1s hbk (show (cacC L)[s * 5]? = some (.int .u32 1) from c0)
 refine Calls.mono (syDo2 ⟨b, s * 5, none⟩ _ w hb0.1) fun e w' he => ?_
 obtain ⟨rfl, rfl⟩ := he
 exact ⟨_, rfl, rfl, L, p, v, ⟨hx, .inl rfl⟩, fun w0 B M σ h => h⟩
abbrev cacW (b : Nat) (L : Cac) : List As := [As.blk b 65 (cacC L), As.many (inR L)]
def hasP (L : Cac) (s : Nat) : Bool := match L[s]? with | some (some _) => true | _ => false
def pcP (x : Option (Nat × Value)) : Option Addr := x.map fun y => ⟨y.1, 0, none⟩
theorem hasP_at {L : Cac} {s : Nat} {x : Option (Nat × Value)} (h : L[s]? = some x) : hasP L s = x.isSome := by
 unfold hasP
 rw [h]
 cases x <;> rfl
theorem CacS.has {L L' : Cac} {s p : Nat} {v : Value} (h : CacS L s L' p v) (t : Nat) : hasP L' t = (decide (t = s) || hasP L t) := by
 have hs : s < L'.length := (List.getElem?_eq_some_iff.1 h.1).1
 by_cases e : t = s
 ·subst e
  rw [hasP_at h.1]
  simp
 rcases h.2 with h2 | ⟨_, h2⟩
 ·rw [h2]
  simp [e]
 rw [h2]
 unfold hasP
 rw [List.getElem?_set_ne ZO]
 simp [e]
theorem cacLd {b : Nat} {L : Cac} {s : Nat} {x : Option (Nat × Value)} {w : World} (hb : (As.blk b 65 (cacC L)).ok w) (hm : (As.many (inR L)).ok w) (hx : L[s]? = some x) : Z0h P 120 [.pointer (some ⟨b, s * 5 + 4, none⟩)] w fun r w' => r = .pointer (pcP x) ∧ w = w' := by
 have hc := Z2g hx 4 ZO
 rcases x with _ | ⟨p, v⟩
 ·exact syLoadPR0 hb hc
 exact syLoadPR hb hc (hm _ (Z3s.2 ⟨s, _, hx, .head _⟩))
theorem cac_ik {L : Cac} {s p : Nat} {v : Value} {w : World} (hm : (As.many (inR L)).ok w) (hx : L[s]? = some (some (p, v))) : (As.blk p 188 [v]).ok w ∧ IK w 3 v (entR s) :=
 ⟨hm _ (Z3s.2 ⟨s, _, hx, .head _⟩), Own.ik (entR_rows s) (hm _ (Z3s.2 ⟨s, _, hx, .tail _ (.head _)⟩))⟩
def CacQ (L : Cac) (q : Int) (L' : Cac) : Prop := if -342 ≤ q ∧ q ≤ 308 then ∃ p v, CacS L ((q + 342) / 16).toNat L' p v else L' = L
theorem entR_q {q : Int} (hq : -342 ≤ q ∧ q ≤ 308) : (entR (((q + 342) / 16).toNat : Int))[((q + 342) % 16).toNat]? = some (entW q) := by
 have hs : (((q + 342) / 16).toNat : Int) = (q + 342) / 16 := by omega
 rw [hs, entR_at]
 ·unfold Z0P
  rw [if_neg ZO]
  dsimp only
  rw [show -342 + 16 * ((q + 342) / 16) + (((q + 342) % 16).toNat : Int) = q by omega]
 unfold Z0P
 rw [if_neg ZO]
 dsimp only
 split <;> omega
theorem newC  (w : World) :
  Z0h P 6 [] w fun r w' => ∃ b, r = .pointer (some ⟨b, 0, none⟩) ∧ Grow w w' (cacW b (List.replicate 41 none)) := by
 refine Z0n func6 rfl ntmps6 rfl ?_
 have H0 := St.start w
 refine Z03 (Z00 (Zg (Z02 (Z01 (Z03 (Z00 ?_))))))
 refine Z0D rfl rfl pl65 ta65 .nil ?_
 refine Z1z H0 rfl rfl rfl (fun b1_1 w1 H1 => ?_)
 refine Zg (Z02 (Z01 ?_))
 refine Zk [0] ?_
 refine Z0f ?_
 refine Z0q results6 rfl ?_
 refine ⟨_, rfl, ?_⟩
 have hz : (As.blk b1_1 65 _ :: ([] : List As)) = [As.blk b1_1 65 (cacC (List.replicate 41 none))] := rfl
 have h1 := many_iff (many_nil (H1.cast hz)) (τ' := inR (List.replicate 41 none)) (fun A => by rw [Z3s]; exact ⟨fun ⟨s, x, hx, hA⟩ => (by obtain ⟨hs, h2⟩ := List.getElem?_eq_some_iff.1 hx; rw [List.getElem_replicate] at h2; subst h2; exact hA), fun h => (List.not_mem_nil h).elim⟩)
 exact ⟨_, rfl, (h1.front1).grows⟩
theorem completeC (b : Nat) (L : Cac) (hL : L.length = 41) (s : Nat) (hs : s < 41) (w : World) (hS : Sep w.heap.size (fps (cacW b L)) w (cacW b L)) :
  Z0h P 97 [.pointer (some ⟨b, 0, none⟩), .int .i64 (s : Int)] w fun r w' => ∃ v L' p, r = v ∧ CacS L s L' p v ∧ Z2E w w' (cacW b L) (cacW b L') := by
 refine Z0n func97 rfl ntmps97 rfl ?_
 have H0 : St w w.heap.size (fps (cacW b L)) (cacW b L) w := St.startS hS
 refine Z03 (Z00 ?_)
 refine l_box1 H0 rfl rfl rfl rfl (fun b0_0 w1 H1 => ?_)
 refine Zg (Z02 (Z01 (Z03 ?_)))
 have H2 := H1.drewn
 refine Z1t (n := 7) [Zz,Zz,Zz,Zz,Zz,Zz,Zz] (fun wS => (As.blk b0_0 3 [.int .i64 (s : Int)]).ok wS) ZK rfl rfl ?_
 apply Zu (L' := [Zy,Zz,Zz,Zz,Zz,Zz,Zz]) 0 (H2.ok mem0)
 ·intro wS sS
  refine Zm (Z02 ?_)
  exact Z0d rfl
 refine a_nil (L' := [Zy,Zz,Zy,Zz,Zz,Zz,Zz]) 2 rfl ZK ZK ZK rfl rfl rfl (H2.ok mem0) rfl ?_
 apply Zu (L' := [Zy,Zy,Zy,Zz,Zz,Zz,Zz]) 1 (H2.ok mem0)
 ·intro wS sS
  refine Z04 (Z0R sS) mem0 rfl rfl underlying3 rfl rfl rfl ?_
  refine Z02 ?_
  exact Z0d rfl
 apply Zu (L' := [Zy,Zy,Zy,Zy,Zz,Zz,Zz]) 3 (H2.ok mem0)
 ·intro wS sS
  refine Z08 fo65_0 rfl rfl rfl (Z02 ?_)
  exact Z0d rfl
 apply Zu (L' := [Zy,Zy,Zy,Zy,Zy,Zz,Zz]) 4 (H2.ok mem0)
 ·intro wS sS
  refine l_indexAn (j := s) (n := 5) rfl rfl underlying63 tz62 rfl rfl rfl hs ?_
  refine Z02 ?_
  exact Z0d rfl
 refine Z0O (L' := [Zy,Zy,Zy,Zy,Zy,Zy,Zz]) 5 ZK rfl rfl ?_
 refine Z0z H2 ta204 rfl rfl (fun b1_5 w3 H3 => ?_)
 refine Z02 ?_
 refine Z0F (H3.ok mem1) ?_
 refine Z0O (L' := [Zy,Zy,Zy,Zy,Zy,Zy,Zy]) 6 ZK rfl rfl ?_
 refine Z0p H3 .head (by repeat (first | exact .zero | apply Z14.succ)) rfl tz204 rfl rfl ZR (fun w4 H4 => ?_)
 refine Z02 ?_
 refine Z0F (H4.ok mem1) ?_
 refine Z0W ZK ?_
 refine Z01 ?_
 refine Zk [3, 5] ?_
 refine Z03 (Z00 ?_)
 refine Z04 H4 mem0 rfl rfl underlying204 rfl rfl rfl ?_
 refine Z0N rfl rfl rfl (Z08 fo62_0 rfl rfl rfl ?_)
 refine l_makeFunc rfl rfl (.cons rfl (.cons rfl .nil)) ?_
 have H5 := St.frontL (l := [_, _, _]) H4
 simp only [Zca, Zna] at H5
 have H6 := St.frontL (l := [_, _, _]) H5
 simp only [Zca, Zna] at H6
 have H7 := St.frontL (l := [_, _, _]) H6
 simp only [Zca, Zna] at H7
 have H8 := St.frontL (l := [_, _, _]) H7
 simp only [Zca, Zna] at H8
 refine Z0J rfl rfl func113 rfl rfl (.cons rfl (.cons rfl .nil)) (doC L hL s hs b1_5 b0_0 b w4 (St.rows (τ := dcR b1_5 b0_0 b s L) H8)) ?_
 rintro _ w9 ⟨rfl, L', p, v, hC, hX⟩
 have H9 := hX _ _ _ _ H8
 simp only [dcR, List.cons_append, List.nil_append] at H9
 refine Z02 (Z01 (Z03 (Z00 ?_)))
 have hpk := cac_ik (H9.ok (.tail _ (.tail _ (.tail _ (.head _))))) hC.1
 refine Z04 H9 mem0 rfl rfl underlying204 rfl rfl rfl ?_
 refine Z0N rfl rfl rfl (Z08 fo62_2 rfl rfl rfl ?_)
 refine Z0Q rfl rfl func120 rfl rfl (.cons rfl .nil) (cacLd (H9.ok mem2) (H9.ok mem3) hC.1) ?_
 refine Z0N rfl rfl rfl ?_
 refine Z04 (Z0R hpk.1) mem0 rfl rfl underlying188 rfl rfl rfl ?_
 refine Zg (Z02 (Z01 ?_))
 refine Zk [4] ?_
 refine Z0f ?_
 refine Z0q results97 rfl ?_
 refine ⟨_, rfl, ?_⟩
 have H13 := St.del (.tail (.tail .head)) (St.del (.tail (.tail (.tail .head))) (St.front3 (St.front3 H9)))
 exact ⟨v, L', p, rfl, hC, H13.transS⟩
theorem EntryC (b : Nat) (L : Cac) (hL : L.length = 41) (q : Int) (hq : -9223372036854775808 ≤ q ∧ q ≤ 9223372036854775807) (w : World) (hS : Sep w.heap.size (fps (cacW b L)) w (cacW b L)) :
  Z0h P 72 [.pointer (some ⟨b, 0, none⟩), .int .i64 q] w fun r w' => ∃ L', r = .tuple #[wideV (entS q).1, .int .i64 (entS q).2.1, .int .i64 (entS q).2.2] ∧ CacQ L q L' ∧ Z2E w w' (cacW b L) (cacW b L') := by
 refine Z0n func72 rfl ntmps72 rfl ?_
 have H0 : St w w.heap.size (fps (cacW b L)) (cacW b L) w := St.startS hS
 refine Z03 (Z00 ?_)
 refine Z0z H0 ta154 rfl rfl (fun b0_0 w1 H1 => ?_)
 refine Zg (Zg (Z02 (Z01 (Z03 (Z00 (Zm ?_))))))
 refine Z0Q rfl rfl func96 rfl rfl (.cons rfl .nil) (whereP q hq _) ?_
 refine Zm ?_
 refine Zx (Zx (Zx (Zg (Zg (Zg (Z02 (Z01 ?_)))))))
 refine Zk [0, 4, 6, 7, 8] ?_
 refine Z03 (Z03 (Z00 (Zm ?_)))
 refine Zo ?_
 refine Z02 (Z01 ?_)
 (first | refine Z0a rfl ?_ ?_ | refine Z06 rfl ?_ ?_) <;> intro hc0
 ·have hbad : q < -342 ∨ 308 < q := by
   rcases Int.lt_or_le q (-342) with h | h
   ·exact .inl h
   rcases Int.lt_or_le 308 q with h2 | h2
   ·exact .inr h2
   exact absurd (show (Z29 q).2.2 = 0 by unfold Z29; rw [if_neg ZO]) hc0
  have ewe : Z29 q = (0, 0, 60) := if_pos hbad
  have ene : entS q = (0, 0, 60) := if_pos hbad
  refine Z03 (Z00 ?_)
  refine Z0b H1 mem0 rfl rfl underlying154 rfl Z1u rfl (.take (.take .nil)) ?_
  refine Zm ?_
  refine Z09 H1 .head (.zero (.zero .nil)) rfl Z1u rfl rfl ZC (fun w2 H2 => ?_)
  refine Zg (Zg (Z02 (Z01 ?_)))
  refine Zk [4, 5, 6] ?_
  refine Z0f ?_
  refine Z05 ?_
  refine Z0k results72 (.cell rfl (Z0g H2 mem0 underlying154 rfl Z1u (.take (.take .nil))) (.tmp rfl (.tmp rfl .nil))) rfl ?_
  refine ⟨_, rfl, ?_⟩
  have H5 := St.del (.tail (.tail .head)) (St.front2 (St.front2 H2))
  refine ⟨L, ?_, ?_, H5.transS⟩
  ·rw [ene, ewe]
   all_goals rfl
  unfold CacQ
  rw [if_neg ZO]
 have hgood : -342 ≤ q ∧ q ≤ 308 := by
  rcases Int.lt_or_le q (-342) with h | h
  ·exact absurd (show (Z29 q).2.2 = 60 by unfold Z29; rw [if_pos ZO]) ZO
  rcases Int.lt_or_le 308 q with h2 | h2
  ·exact absurd (show (Z29 q).2.2 = 60 by unfold Z29; rw [if_pos ZO]) ZO
  exact ⟨h, h2⟩
 have ewe : Z29 q = ((q + 342) / 16, (q + 342) % 16, 0) := if_neg ZO
 refine Z0c (Z01 (Z03 (Z00 (Zm (Zm ?_)))))
 refine Z0u (s := 21) (v' := .int .i64 (((q + 342) / 16).toNat : Int)) rfl (congrArg (Value.int .i64) (by rw [ewe]; dsimp only; omega)) ?_
 have H6 := St.frontL (l := [_, _]) H1
 simp only [Zca, Zna] at H6
 have H7 := St.frontL (l := [_, _]) H6
 simp only [Zca, Zna] at H7
 refine Z0J rfl rfl func97 rfl rfl (.cons rfl (.cons rfl .nil)) (completeC b L hL ((q + 342) / 16).toNat ZO w1 (St.rows (τ := cacW b L) H7)) ?_
 rintro v w8 ⟨_, L', p, rfl, hC, hX⟩
 have H8 := hX _ _ _ _ H7
 simp only [cacW, List.cons_append, List.nil_append] at H8
 have hik := (cac_ik (H8.ok (.tail _ (.head _))) hC.1).2
 refine Zm ?_
 refine Z0u (s := 23) (v' := .int .i64 (((q + 342) % 16).toNat : Int)) rfl (congrArg (Value.int .i64) (by rw [ewe]; dsimp only; omega)) ?_
 have hent := entR_q hgood
 have hel := (List.getElem?_eq_some_iff.1 hent).1
 refine Z4o (j := ((q + 342) % 16).toNat) rfl rfl underlying188 tz187 (by decide) rfl rfl (by first | exact H8.ibl mem0 | exact H8.ibl mem2 | assumption) ZP ZI (fun ad4_4 ac4_4 hA4_4 => ?_)
 refine k_load (j := ((q + 342) % 16).toNat) rfl rfl underlying187 rfl tz187 rfl hA4_4 (by first | exact H8.ibl mem0 | exact H8.ibl mem2 | assumption) (hent) ?_
 refine Z0z H8 ta187 rfl rfl (fun b4_6 w9 H9 => ?_)
 refine Z09 H9 .head (.zero (.zero (.zero .nil))) rfl tz187 rfl rfl ZC (fun w10 H10 => ?_)
 refine Z02 (Z01 ?_)
 refine Zk [4, 9] ?_
 refine Z03 ?_
 have H11 := H10.drewn
 refine Z1t (n := 7) [Zz,Zz,Zz,Zz,Zz,Zz,Zz] (fun wS => (As.blk b4_6 187 (entW q)).ok wS) ZK rfl rfl ?_
 apply Zu (L' := [Zy,Zz,Zz,Zz,Zz,Zz,Zz]) 0 (H11.ok mem0)
 ·intro wS sS
  refine Z08 fo187_0 rfl rfl rfl (Z02 ?_)
  exact Z0d rfl
 apply Zu (L' := [Zy,Zy,Zz,Zz,Zz,Zz,Zz]) 1 (H11.ok mem0)
 ·intro wS sS
  refine Z0b (Z0R sS) mem0 rfl rfl underlying154 rfl Z1u rfl (.take (.take .nil)) ?_
  refine Z02 ?_
  exact Z0d rfl
 apply Zu (L' := [Zy,Zy,Zy,Zz,Zz,Zz,Zz]) 2 (H11.ok mem0)
 ·intro wS sS
  refine Z08 fo187_1 rfl rfl rfl (Z02 ?_)
  exact Z0d rfl
 apply Zu (L' := [Zy,Zy,Zy,Zy,Zz,Zz,Zz]) 3 (H11.ok mem0)
 ·intro wS sS
  refine Z04 (Z0R sS) mem0 rfl rfl underlying3 rfl rfl rfl ?_
  refine Z02 ?_
  exact Z0d rfl
 refine Z0O (L' := [Zy,Zy,Zy,Zy,Zy,Zz,Zz]) 4 ZK rfl rfl ?_
 refine Z09 H11 (.tail (.tail (.tail .head))) (.zero (.zero .nil)) rfl Z1u rfl rfl ZC (fun w12 H12 => ?_)
 refine Z02 ?_
 refine Z0F (H12.ok mem0) ?_
 apply Zu (L' := [Zy,Zy,Zy,Zy,Zy,Zy,Zz]) 5 (H12.ok mem0)
 ·intro wS sS
  refine Zg (Z02 ?_)
  exact Z0d rfl
 apply Zu (L' := [Zy,Zy,Zy,Zy,Zy,Zy,Zy]) 6 (H12.ok mem0)
 ·intro wS sS
  refine Zg (Z02 ?_)
  exact Z0d rfl
 refine Z0W ZK ?_
 refine Z01 ?_
 refine Z0f ?_
 refine Z0k results72 (.cell rfl (Z0g H12 mem3 underlying154 rfl Z1u (.take (.take .nil))) (.tmp rfl (.tmp rfl .nil))) rfl ?_
 refine ⟨_, rfl, ?_⟩
 have H16 := St.del (.tail (.tail .head)) (St.del (.tail (.tail (.tail .head))) (St.front2 (St.front2 H12)))
 refine ⟨L', ?_, ?_, H16.transS⟩
 ·rw [show (entS q).2.2 = 0 from by unfold entS; rw [if_neg ZO]; split <;> rfl]
  all_goals rfl
 unfold CacQ
 rw [if_pos hgood]
 exact ⟨p, _, hC⟩
inductive CacL (L : Cac) : List Int → Cac → Prop
 | nil : CacL L [] L
 | snoc {l : List Int} {L' L'' : Cac} {q : Int} (h : CacL L l L') (k : CacQ L' q L'') : CacL L (l ++ [q]) L''
def inQ (q : Int) : Prop := -342 ≤ q ∧ q ≤ 308
instance (q : Int) : Decidable (inQ q) := by unfold inQ; infer_instance
theorem CacQ.len {L L' : Cac} {q : Int} (h : CacQ L q L') : L'.length = L.length := by
 unfold CacQ at h
 split at h
 ·obtain ⟨p, v, h⟩ := h
  exact h.len
 rw [h]
theorem CacQ.has {L L' : Cac} {q : Int} (h : CacQ L q L') (t : Nat) : hasP L' t = (decide (inQ q ∧ t = ((q + 342) / 16).toNat) || hasP L t) := by
 unfold CacQ at h
 split at h
 ·rename_i hq
  obtain ⟨p, v, h⟩ := h
  rw [h.has, show decide (inQ q ∧ t = ((q + 342) / 16).toNat) = decide (t = ((q + 342) / 16).toNat) from decide_eq_decide.2 ⟨fun h => h.2, fun h => ⟨hq, h⟩⟩]
 rename_i hq
 rw [h, decide_eq_false (fun h => hq h.1), Bool.false_or]
theorem CacL.len {L L' : Cac} {l : List Int} (h : CacL L l L') : L'.length = L.length := by
 induction h with
 | nil => rfl
 | snoc h k ih => rw [k.len, ih]
theorem CacL.has {L L' : Cac} {l : List Int} (h : CacL L l L') (t : Nat) : hasP L' t = (decide (∃ q ∈ l, inQ q ∧ t = ((q + 342) / 16).toNat) || hasP L t) := by
 induction h with
 | nil => simp
 | @snoc l L' L'' q h k ih =>
  rw [k.has, ih, ← Bool.or_assoc, ← Bool.decide_or]
  congr 1
  refine decide_eq_decide.2 ⟨fun h => ?_, fun ⟨x, hx, h⟩ => ?_⟩
  ·rcases h with h | ⟨x, hx, h⟩
   ·exact ⟨q, by simp, h⟩
   exact ⟨x, by simp [hx], h⟩
  rcases List.mem_append.1 hx with h1 | h1
  ·exact .inr ⟨x, h1, h⟩
  rw [List.mem_singleton.1 h1] at h
  exact .inl h
theorem ints_snoc (k : IntKind) (l : List Int) (x : Int) : ints k (l ++ [x]) = ints k l ++ [.int k x] := by simp [ints]
theorem St_argR {w0 w : World} {B : Nat} {M : Nat → Prop} {σ τ : List As} (hw : St w0 B M (τ ++ σ) w) {A : As} (hA : A ∈ σ) {R : World → Prop} (h : ∀ w1, A.ok w1 → R w1) : ∀ w1 : World, (∀ k, k < w.heap.size → ¬ fps τ k → w1.heap[k]? = w.heap[k]?) → R w1 := fun w1 h1 =>
 h w1 (A.loc w w1 (fun k hk => h1 k (hw.sep.lt (List.mem_append_right _ hA) k hk).2 fun ⟨X, hX, hk'⟩ => hw.sep.cross X hX A hA k hk' hk) (hw.sep.ok (List.mem_append_right _ hA)))
end Go.Proofs.YtfomhfbmmjhljaaGreatDoor.W
