/- locks and atomic numbers of Go's library -/
import Derived.Test.YtgjgahmhoflgcaaGreatDoorPa
import Derived.ChangeAlike
import Derived.RegionCalls
import Derived.RegionTactic
import Derived.Laws.LoneSync
import Derived.Laws.Pointers
import Derived.Defers
import Derived.Tactics2
import Derived.Tactics
set_option linter.unusedVariables false
set_option linter.unusedSimpArgs false
set_option maxRecDepth 10000
namespace Go.Proofs.YtgjgahmhoflgcaaGreatDoor.W
open Go.Vc Go.RowKit Tryz
theorem syDis (w : World) : (callFunc 322 #[]).run Tryz.prog w = .ok (.value (.tuple #[])) w := run_call_mark0 func322 (by kernel_rfl) (by kernel_rfl) (by kernel_rfl) .disable (by kernel_rfl) w
theorem syEna (w : World) : (callFunc 324 #[]).run Tryz.prog w = .ok (.value (.tuple #[])) w := run_call_mark0 func324 (by kernel_rfl) (by kernel_rfl) (by kernel_rfl) .enable (by kernel_rfl) w
theorem syAcq (a : Addr) (w : World) : (callFunc 325 #[.pointer (some a)]).run Tryz.prog w = .ok (.value (.tuple #[])) w := run_call_marked func325 (by kernel_rfl) (by kernel_rfl) (by kernel_rfl) .acquire (by kernel_rfl) a w
theorem syRel (a : Addr) (w : World) : (callFunc 327 #[.pointer (some a)]).run Tryz.prog w = .ok (.value (.tuple #[])) w := run_call_marked func327 (by kernel_rfl) (by kernel_rfl) (by kernel_rfl) .releaseMerge (by kernel_rfl) a w
theorem syStoreD (a : Addr) (x : Value) (u : FrameMode) (w : World) (hc : w.cell? a = some x) (hz : w.frozen? a = false) :
  CallsD Tryz.prog 312 #[.pointer (some a), .bool true] u w fun e u' w' => u' = u ∧ (e = .returned (.tuple #[]) ∧ w' = w.drew.setCell a (.int .u32 1)) := by
 have hc' : w.drew.cell? a = some x := by go_simp
 have hz' : w.drew.frozen? a = false := by go_simp
 have hst := run_call_store (P := Tryz.prog) func320 ZK ZK ZK ZK (k := .u32) (y := 1) hc' hz'
 go_enter_d func312, ntmps312
 go_wp2
 go_region_calls
 all_goals (go_end0; exact ⟨rfl, rfl⟩)
theorem syUnlockD (a : Addr) (u : FrameMode) (w : World) (hc : w.cell? a = some (.int .i32 1)) (hz : w.frozen? a = false) :
  CallsD Tryz.prog 311 #[.pointer (some a)] u w fun e u' w' => u' = u ∧ (e = .returned (.tuple #[]) ∧ w' = w.setCell a (.int .i32 0)) := by
 have hd := syDis
 have he := syEna
 have hr := syRel
 have hadd := run_call_add (P := Tryz.prog) func328 ZK ZK ZK .i32 ZK (y := -1) (s := 0) hc hz (by simp [go_sem]; rfl)
 have hcv := run_convert_to_unsafe (P := Tryz.prog) (src := 405) (dst := 100) underlying405 underlying100 ZK hc
 go_enter_d func311, ntmps311
 go_wp2
 go_end0
 go_wp2
 go_end0
 exact ⟨rfl, rfl⟩
theorem syLock (a : Addr) (w : World) (hc : w.cell? a = some (.int .i32 0)) (hz : w.frozen? a = false) :
  Calls Tryz.prog 310 #[.pointer (some a)] w fun e w' => e = .returned (.tuple #[]) ∧ w' = w.setCell a (.int .i32 1) := by
 have hd := syDis
 have he := syEna
 have ha := syAcq
 have hcas := run_call_cas_hit (P := Tryz.prog) func323 ZK ZK ZK .i32 ZK (y := 1) hc hz
 have hc' : (w.setCell a (.int .i32 1)).cell? a = some (.int .i32 1) := World.cell?_setCell_same w a _ hc
 have hcv := run_convert_to_unsafe (P := Tryz.prog) (src := 405) (dst := 100) underlying405 underlying100 ZK hc'
 go_enter func310, ntmps310
 go_wp2
 first | go_end0 | (simp only [Exit.inBlock, Exit.then]; refine bodyPost_ret (results_none rfl _ _ _) rfl ?_) | refine bodyPost_ret (results_none rfl _ _ _) rfl ?_
 go_wp2
 go_end0
 exact ⟨rfl, rfl⟩
theorem syLoadB (a : Addr) (d : Int) (w : World) (h0 : w.cell? a = some (.int .u32 d)) : Calls Tryz.prog 298 #[.pointer (some a)] w fun e w' => e = .returned (.bool (d != 0)) ∧ w' = w := by
 have hl := run_call_load (P := Tryz.prog) func309 ZK ZK ZK .u32 ZK h0
 go_enter func298, ntmps298
 go_wp2
 go_ret
 exact ⟨rfl, rfl⟩
set_option maxRecDepth 100000 in
set_option maxHeartbeats 1600000 in
/-- the slow road of Once.Do: the lock free, not yet done: whatever the function does with the lock taken, between it -/
theorem sySlow (b off : Nat) (caps : Array Value) (Q : World → Prop) (w : World)
  (h0 : w.cell? ⟨b, off, none⟩ = some (.int .u32 0)) (h1 : w.cell? ⟨b, off + 1, none⟩ = some (.int .i32 0)) (f1 : w.frozen? ⟨b, off + 1, none⟩ = false)
  (hclo : Calls Tryz.prog 280 caps (w.setCell ⟨b, off + 1, none⟩ (.int .i32 1)) fun e w2 => e = .returned (.tuple #[]) ∧ Q w2)
  (hq : ∀ w2, Q w2 → w2.cell? ⟨b, off, none⟩ = some (.int .u32 0) ∧ w2.cell? ⟨b, off + 1, none⟩ = some (.int .i32 1) ∧ w2.frozen? ⟨b, off, none⟩ = false ∧ w2.frozen? ⟨b, off + 1, none⟩ = false) :
  Calls Tryz.prog 299 #[.pointer (some ⟨b, off, none⟩), .func (.func 280) #[] caps] w fun e w' => e = .returned (.tuple #[]) ∧ ∃ w2, Q w2 ∧ w' = (w2.drew.setCell ⟨b, off, none⟩ (.int .u32 1)).setCell ⟨b, off + 1, none⟩ (.int .i32 0) := by
 have hc0 : (w.setCell ⟨b, off + 1, none⟩ (.int .i32 1)).cell? ⟨b, off, none⟩ = some (.int .u32 0) := (World.cell?_setCell_other _ ⟨b, off + 1, none⟩ ⟨b, off, none⟩ _ (by simp)).trans h0
 have hnot : ∀ (x : Bool) (w : World), (Op.unary .not (.bool x)).run Tryz.prog w = .ok (.bool (!x)) w := fun _ _ => rfl
 go_enter_defers func299, ntmps299
 go_wp2_with (first | (go_at_call 310; refine (syLock ⟨b, off + 1, none⟩ _ (by go_simp) (by go_simp)).mono ?_; rintro e w' ⟨rfl, rfl⟩) | (go_at_call 298; refine (syLoadB ⟨b, off, none⟩ 0 _ hc0).mono ?_; rintro e w' ⟨rfl, rfl⟩) | (go_at_call 280; refine hclo.mono ?_; rintro e w2 ⟨rfl, hQ⟩))
 obtain ⟨q0, q1, z0, z1⟩ := hq _ hQ
 refine leaves_cons (f := 312) (args := #[.pointer (some ⟨b, off, none⟩), .bool true]) (by simp) (by simp [go_sem]) ?_
 refine (syStoreD ⟨b, off, none⟩ (.int .u32 0) .returning _ q0 z0).mono ?_
 rintro e u' w'' ⟨rfl, rfl, rfl⟩
 refine leaves_cons (f := 311) (args := #[.pointer (some ⟨b, off + 1, none⟩)]) (by simp [settle]) (by simp [go_sem]) ?_
 refine (syUnlockD ⟨b, off + 1, none⟩ _ _ ?_ (by simp [z1])).mono ?_
 ·refine (World.cell?_setCell_other _ ⟨b, off, none⟩ ⟨b, off + 1, none⟩ _ (by simp)).trans ?_
  rw [World.cell?_drew]
  exact q1
 rintro e u' w'' ⟨rfl, rfl, rfl⟩
 refine ⟨.tuple #[], by simp [results, results299], rfl, w2, hQ, rfl⟩
set_option maxRecDepth 100000 in
set_option maxHeartbeats 1600000 in
/-- Once.Do, for the first time -/
theorem syDo1 (b off : Nat) (caps : Array Value) (Q : World → Prop) (w : World)
  (h0 : w.cell? ⟨b, off, none⟩ = some (.int .u32 0)) (h1 : w.cell? ⟨b, off + 1, none⟩ = some (.int .i32 0)) (f1 : w.frozen? ⟨b, off + 1, none⟩ = false)
  (hclo : Calls Tryz.prog 280 caps (w.setCell ⟨b, off + 1, none⟩ (.int .i32 1)) fun e w2 => e = .returned (.tuple #[]) ∧ Q w2)
  (hq : ∀ w2, Q w2 → w2.cell? ⟨b, off, none⟩ = some (.int .u32 0) ∧ w2.cell? ⟨b, off + 1, none⟩ = some (.int .i32 1) ∧ w2.frozen? ⟨b, off, none⟩ = false ∧ w2.frozen? ⟨b, off + 1, none⟩ = false) :
  Calls Tryz.prog 279 #[.pointer (some ⟨b, off, none⟩), .func (.func 280) #[] caps] w fun e w' => e = .returned (.tuple #[]) ∧ ∃ w2, Q w2 ∧ w' = (w2.drew.setCell ⟨b, off, none⟩ (.int .u32 1)).setCell ⟨b, off + 1, none⟩ (.int .i32 0) := by
 have hnot : ∀ (x : Bool) (w : World), (Op.unary .not (.bool x)).run Tryz.prog w = .ok (.bool (!x)) w := fun _ _ => rfl
 go_enter func279, ntmps279
 go_wp2_with (first | (go_at_call 298; refine (syLoadB ⟨b, off, none⟩ 0 _ h0).mono ?_; rintro e w' ⟨rfl, rfl⟩) | (go_at_call 299; refine (sySlow b off caps Q _ h0 h1 f1 hclo hq).mono ?_; rintro e w' ⟨rfl, w2, hQ, rfl⟩))
 go_end0
 exact ⟨rfl, w2, hQ, rfl⟩
theorem syDo2 (a : Addr) (fv : Value) (w : World) (h0 : w.cell? a = some (.int .u32 1)) :
  Calls Tryz.prog 279 #[.pointer (some a), fv] w fun e w' => e = .returned (.tuple #[]) ∧ w' = w := by
 have hnot : ∀ (x : Bool) (w : World), (Op.unary .not (.bool x)).run Tryz.prog w = .ok (.bool (!x)) w := fun _ _ => rfl
 go_enter func279, ntmps279
 go_wp2_with (go_at_call 298; refine (syLoadB a 1 _ h0).mono ?_; rintro e w' ⟨rfl, rfl⟩)
 go_end0
 exact ⟨rfl, rfl⟩
theorem syLoadI (a : Addr) (x : Int) (w : World) (h0 : w.cell? a = some (.int .i64 x)) : Calls Tryz.prog 63 #[.pointer (some a)] w fun e w' => e = .returned (.int .i64 x) ∧ w' = w := by
 have hl := run_call_load (P := Tryz.prog) func143 ZK ZK ZK .i64 ZK h0
 go_enter func63, ntmps63
 go_wp2
 go_ret
 exact ⟨rfl, rfl⟩
theorem syAddI (a : Addr) (x : Int) (w : World) (hx : 0 ≤ x ∧ x ≤ 1000000) (h0 : w.cell? a = some (.int .i64 x)) (hz : w.frozen? a = false) : Calls Tryz.prog 281 #[.pointer (some a), .int .i64 1] w fun e w' => e = .returned (.int .i64 (x + 1)) ∧ w' = w.setCell a (.int .i64 (x + 1)) := by
 have hadd := run_call_add (P := Tryz.prog) func300 ZK ZK ZK .i64 ZK (y := 1) (s := x + 1) h0 hz (by
  have e : IntKind.i64.wrap (x + 1) = x + 1 := Z0l ZO
  simp [Op.intArith, e])
 go_enter func281, ntmps281
 go_wp2
 go_ret
 exact ⟨rfl, rfl⟩
theorem run_load_ptr {f : FuncId} {fn : Func} {Pg : Program} (hf : Pg.funcs[f]? = some fn) (hname : (fn.name == "runtime.NumGoroutine") = false) (hb : fn.body.isNone = true) (hn : Extern.findNext fn = none)
  (he : Extern.find fn = some (Extern.Atomic.loadT .ptr)) {a : Addr} {x : Option Addr} {w : World} (hc : w.cell? a = some (.pointer x)) :
  (callFunc f #[.pointer (some a)]).run Pg w = .ok (.value (.pointer x)) w := by
 rw [run_callFunc_extern hf hname hb hn he]
 change (Sem.run Pg (do Extern.Atomic.read .ptr (← asAddr (.pointer (some a)))) w).andThen _ = _
 simp [Extern.Atomic.read, asAddr, hc, Result.andThen]
theorem run_store_ptr {f : FuncId} {fn : Func} {Pg : Program} (hf : Pg.funcs[f]? = some fn) (hname : (fn.name == "runtime.NumGoroutine") = false) (hb : fn.body.isNone = true) (hn : Extern.findNext fn = none)
  (he : Extern.find fn = some Extern.Atomic.storeT) {a : Addr} {y : Option Addr} {u : Value} {w : World} (hc : w.cell? a = some u) (hz : w.frozen? a = false) :
  (callFunc f #[.pointer (some a), .pointer y]).run Pg w = .ok (.value (.tuple #[])) (w.setCell a (.pointer y)) := by
 rw [run_callFunc_extern hf hname hb hn he]
 change (Sem.run Pg (do
  store (← asAddr (.pointer (some a))) (.pointer y) .atomic
  pure Extern.Atomic.none_) w).andThen _ = _
 simp [asAddr, hc, hz, run_store Pg w a (.pointer y) .atomic rfl, Result.andThen, Extern.Atomic.none_]
theorem cvFrom {pb : Nat} {v : Value} {w : World} (hb : w.heap[pb]? = some (.cells #[v] 126 (0, 0))) : (convert 100 98 (.pointer (some ⟨pb, 0, none⟩))).run Tryz.prog w = .ok (.pointer (some ⟨pb, 0, none⟩)) w := by
 have hsh : w.shape? pb = some (126, 1) := by simp [World.shape?, hb]
 have hl : liesAt Tryz.prog Tryz.prog.depth 126 (1 / Tryz.prog.cellsOf 126) 0 126 1 = true := by kernel_rfl
 obtain ⟨i, hi, hsz⟩ : ∃ i, Tryz.prog.info? 126 = some i ∧ i.size ≠ 0 := by
  have h : (Tryz.prog.info? 126).map (fun i => decide (i.size = 0)) = some false := by kernel_rfl
  obtain ⟨i, hi, h2⟩ := Option.map_eq_some_iff.1 h
  exact ⟨i, hi, by simpa using h2⟩
 simp [convert, Conv.unsafePointer, Conv.seenAt, viewAt, variablesAt, sizeOf, typeInfo, run_underlying underlying100, run_underlying underlying98, hi, hsz, hsh, hl, Result.andThen]
theorem cvNil {w : World} : (convert 100 98 (.pointer none)).run Tryz.prog w = .ok (.pointer none) w := by
 simp [convert, Conv.unsafePointer, run_underlying underlying100, run_underlying underlying98, Result.andThen]
theorem syLoadP0 (a : Addr) (w : World) (h0 : w.cell? a = some (.pointer none)) : Calls Tryz.prog 64 #[.pointer (some a)] w fun e w' => e = .returned (.pointer none) ∧ w' = w := by
 have hl := run_load_ptr (Pg := Tryz.prog) func144 ZK ZK ZK ZK h0
 have hcv := cvNil (w := w)
 go_enter func64, ntmps64
 go_wp2
 go_ret
 exact ⟨rfl, rfl⟩
theorem syLoadP (a : Addr) (pb : Nat) (v : Value) (w : World) (h0 : w.cell? a = some (.pointer (some ⟨pb, 0, none⟩))) (hb : w.heap[pb]? = some (.cells #[v] 126 (0, 0))) : Calls Tryz.prog 64 #[.pointer (some a)] w fun e w' => e = .returned (.pointer (some ⟨pb, 0, none⟩)) ∧ w' = w := by
 have hl := run_load_ptr (Pg := Tryz.prog) func144 ZK ZK ZK ZK h0
 have hcv := cvFrom hb
 go_enter func64, ntmps64
 go_wp2
 go_ret
 exact ⟨rfl, rfl⟩
theorem syStoreP (a : Addr) (pb : Nat) (v u : Value) (w : World) (h0 : w.cell? a = some u) (hz : w.frozen? a = false) (hb : w.heap[pb]? = some (.cells #[v] 126 (0, 0))) : Calls Tryz.prog 285 #[.pointer (some a), .pointer (some ⟨pb, 0, none⟩)] w fun e w' => e = .returned (.tuple #[]) ∧ w' = w.setCell a (.pointer (some ⟨pb, 0, none⟩)) := by
 have hst := run_store_ptr (Pg := Tryz.prog) func304 ZK ZK ZK ZK (y := some ⟨pb, 0, none⟩) h0 hz
 have hcv := run_convert_to_unsafe (P := Tryz.prog) (src := 98) (dst := 100) underlying98 underlying100 ZK (a := ⟨pb, 0, none⟩) (v := v) (w := w) (by rw [cell_of_row w pb 0 #[v] 126 (0, 0) hb]; rfl)
 go_enter func285, ntmps285
 go_wp2
 go_end0
 exact ⟨rfl, rfl⟩
section
variable {P : Program} {N : Nat} {ρ : Env} {w w0 : World} {Q : Z26} {ops : Array Oper} {rest : List Oper} {d : Nat} {ty : TypeId} {pos : String} {af : Array Edge} {g : Option (Nat × Bool)} {B : Nat} {M : Nat → Prop} {σ σ' : List As}
theorem Z5r {x ix : Operand} {k : IntKind} {i : Int} {j m b n : Nat} {T e : TypeId} (hg : Z0t ops ρ g = true) (hN : Nat.blt d N = true) (hT : P.underlying T = some (.array m e)) (hsz : (P.info? e).map (·.size) = some n)
  (hx : Z0g ρ x = some (.pointer (some ⟨b, 0, none⟩))) (hi : Z0g ρ ix = some (.int k i)) (hij : i = (j : Int)) (hb : j < m)
  (nx : RunL P N ops Q rest ((d, .pointer (some ⟨b, j * n, none⟩)) :: ρ) w) : RunL P N ops Q (⟨some d, .indexAddr T x ix, ty, pos, af, g⟩ :: rest) ρ w := by
 subst hij
 exact Z1n hg rfl hN (fun a ha => by
  cases hq : P.info? e with
  | none => simp [hq] at hsz
  | some inf =>
   have h1 : inf.size = n := by simpa [hq] using hsz
   have h2 : (⟨b, 0, none⟩ : Addr).add (j * n) = ⟨b, j * n, none⟩ := by rw [Z2p, Nat.zero_add]
   simp [execOp, ha.eval hx, ha.eval hi, Instr.indexAt, Instr.sureAddr, asIntOf, run_underlying hT, hb, sizeOf, typeInfo, hq, h1, h2]) nx
theorem l_neqp {x y : Operand} {p : Option Addr} {T U : TypeId} (hT : P.underlying T = some (.pointer (P.pointee T))) (hg : Z0t ops ρ g = true) (hN : Nat.blt d N = true) (hx : Z0g ρ x = some (.pointer p)) (hy : Z0g ρ y = some (.pointer none)) (n : RunL P N ops Q rest ((d, .bool (decide (p.isSome = true))) :: ρ) w) : RunL P N ops Q (⟨some d, .binOp .neq T x y U, ty, pos, af, g⟩ :: rest) ρ w :=
 Z1n hg rfl hN (fun a ha => by
  have hgd : (eqGuard .neq T x y (.pointer p) (.pointer none)).run P w = .ok () w := by simp [eqGuard]
  simp only [execOp, ha.eval hx, ha.eval hy, Sem.run_bind, hgd, Result.andThen_ok]
  rw [run_neq_pointer_nil _ T p hT]
  cases p <;> rfl) n
theorem Z40 {x y : Operand} {p : Option Addr} {T U : TypeId} (hT : P.underlying T = some (.pointer (P.pointee T))) (hg : Z0t ops ρ g = true) (hN : Nat.blt d N = true) (hx : Z0g ρ x = some (.pointer p)) (hy : Z0g ρ y = some (.pointer none)) (n : RunL P N ops Q rest ((d, .bool (decide (p.isNone = true))) :: ρ) w) : RunL P N ops Q (⟨some d, .binOp .eql T x y U, ty, pos, af, g⟩ :: rest) ρ w :=
 Z1n hg rfl hN (fun a ha => by
  have hgd : (eqGuard .eql T x y (.pointer p) (.pointer none)).run P w = .ok () w := by simp [eqGuard]
  simp only [execOp, ha.eval hx, ha.eval hy, Sem.run_bind, hgd, Result.andThen_ok]
  rw [run_eql_pointer_nil _ T p hT]
  cases p <;> rfl) n
theorem Z6E {b o : Nat} {E : TypeId} {cs : List Value} {x : Value} (hw : St w0 B M σ w) (u : Upd σ (As.blk b E cs) (As.blk b E (cs.set o x)) σ') : St w0 B M σ' (w.setCell ⟨b, o, none⟩ x) := by
 have hb : w.heap[b]? = some (.cells cs.toArray E (0, 0)) := hw.ok u.mem
 refine hw.upd u ⟨rfl, rfl, rfl, by simp [World.setCell], fun k hk hm => Below.heap_setCell _ _ _ _ (fun e => hm (by subst e; rfl))⟩ ?_ ?_
 ·show (w.setCell ⟨b, o, none⟩ x).heap[b]? = _
  simp [World.setCell, Array.getElem?_modify, hb]
 intro k hk
 have : k = b := hk
 subst this
 exact ⟨.inl rfl, by simpa [World.setCell] using (Array.getElem?_eq_some_iff.1 hb).1⟩
theorem Z55 {b o : Nat} {E : TypeId} {cs : List Value} {v : Value} (h : (As.blk b E cs).ok w) (hv : cs[o]? = some v) : w.cell? ⟨b, o, none⟩ = some v ∧ w.frozen? ⟨b, o, none⟩ = false := by
 have hb : w.heap[b]? = some (.cells cs.toArray E (0, 0)) := h
 exact ⟨by rw [cell_of_row w b _ cs.toArray E (0, 0) hb]; simpa using hv, by simp [World.frozen?, hb]⟩
theorem many_iff {τ τ' : List As} (h : St w0 B M (As.many τ :: σ) w) (hm : ∀ A, A ∈ τ' ↔ A ∈ τ) : St w0 B M (As.many τ' :: σ) w := by
 refine h.as .head (fun k hk => ?_) (fun w hw A hA => hw A ((hm A).1 hA))
 obtain ⟨A, hA, hk⟩ := hk
 exact ⟨A, (hm A).1 hA, hk⟩
end
theorem syLoadIR {b o : Nat} {E : TypeId} {cs : List Value} {x : Int} {w : World} (h : (As.blk b E cs).ok w) (hc : cs[o]? = some (.int .i64 x)) : Z0f P 63 [.pointer (some ⟨b, o, none⟩)] w fun r w' => r = .int .i64 x ∧ w = w' :=
 Calls.mono (syLoadI ⟨b, o, none⟩ x w (Z55 h hc).1) fun e w' ⟨h1, h2⟩ => ⟨_, h1, rfl, h2.symm⟩
theorem syAddR {b o : Nat} {E : TypeId} {cs : List Value} {x : Int} {w : World} (hx : 0 ≤ x ∧ x ≤ 1000000) (h : (As.blk b E cs).ok w) (hc : cs[o]? = some (.int .i64 x)) : Z0f P 281 [.pointer (some ⟨b, o, none⟩), .int .i64 1] w fun r w' => r = .int .i64 (x + 1) ∧ Turn w w' (As.blk b E cs) (As.blk b E (cs.set o (.int .i64 (x + 1)))) :=
 Calls.mono (syAddI ⟨b, o, none⟩ x w hx (Z55 h hc).1 (Z55 h hc).2) fun e w' ⟨h1, h2⟩ => ⟨_, h1, rfl, fun w0 B M σ σ' u hw => h2 ▸ Z6E hw u⟩
theorem syLoadPR0 {b o : Nat} {E : TypeId} {cs : List Value} {w : World} (h : (As.blk b E cs).ok w) (hc : cs[o]? = some (.pointer none)) : Z0f P 64 [.pointer (some ⟨b, o, none⟩)] w fun r w' => r = .pointer none ∧ w = w' :=
 Calls.mono (syLoadP0 ⟨b, o, none⟩ w (Z55 h hc).1) fun e w' ⟨h1, h2⟩ => ⟨_, h1, rfl, h2.symm⟩
theorem syLoadPR {b o pb : Nat} {E : TypeId} {cs : List Value} {v : Value} {w : World} (h : (As.blk b E cs).ok w) (hc : cs[o]? = some (.pointer (some ⟨pb, 0, none⟩))) (hb : (As.blk pb 126 [v]).ok w) : Z0f P 64 [.pointer (some ⟨b, o, none⟩)] w fun r w' => r = .pointer (some ⟨pb, 0, none⟩) ∧ w = w' :=
 Calls.mono (syLoadP ⟨b, o, none⟩ pb v w (Z55 h hc).1 hb) fun e w' ⟨h1, h2⟩ => ⟨_, h1, rfl, h2.symm⟩
theorem syStorePR {b o pb : Nat} {E : TypeId} {cs : List Value} {u v : Value} {w : World} (h : (As.blk b E cs).ok w) (hc : cs[o]? = some u) (hb : (As.blk pb 126 [v]).ok w) : Z0f P 285 [.pointer (some ⟨b, o, none⟩), .pointer (some ⟨pb, 0, none⟩)] w fun r w' => r = .tuple #[] ∧ Turn w w' (As.blk b E cs) (As.blk b E (cs.set o (.pointer (some ⟨pb, 0, none⟩)))) :=
 Calls.mono (syStoreP ⟨b, o, none⟩ pb v u w (Z55 h hc).1 (Z55 h hc).2 hb) fun e w' ⟨h1, h2⟩ => ⟨_, h1, rfl, fun w0 B M σ σ' u hw => h2 ▸ Z6E hw u⟩
def expF (q : Int) : Int := if q < 0 then -128 - (-q * 1217359) / 524288 else q * 1217359 / 524288 - 127
theorem exp_all : ∀ i : Fin 651, expF ((i.val : Int) - 342) = (entS ((i.val : Int) - 342)).2.1 := by decide +kernel
theorem exp_is {q : Int} (hq : -342 ≤ q ∧ q ≤ 308) : expF q = (entS q).2.1 := by
 have := exp_all ⟨(q + 342).toNat, ZO⟩
 rw [show (((q + 342).toNat : Nat) : Int) - 342 = q by omega] at this
 exact this
abbrev entW (q : Int) : List Value := wrow (entS q).1 ++ [.int .i64 (entS q).2.1]
def entR (s : Int) : List (List Value) := (List.range (Z0M s).2.1.toNat).map fun i : Nat => entW ((Z0M s).1 + (i : Int))
theorem entR_at (s : Int) (i : Nat) (h : i < (Z0M s).2.1.toNat) : (entR s)[i]? = some (entW ((Z0M s).1 + i)) := by simp [entR, h]
theorem entR_len (s : Int) : (entR s).length = (Z0M s).2.1.toNat := by simp [entR]
theorem entR_rows (s : Int) : Z1g 3 (entR s) := fun r hr => by
 obtain ⟨i, _, rfl⟩ := List.mem_map.1 hr
 exact ⟨rfl, by simp [Value.oneCell']⟩
theorem entR_eq {rs : List (List Value)} {s : Int} (hl : rs.length = (Z0M s).2.1.toNat) (h : ∀ j : Nat, j < rs.length → rs[j]? = some (entW ((Z0M s).1 + j))) : rs = entR s := by
 apply List.ext_getElem?
 intro j
 by_cases hj : j < rs.length
 ·rw [h j hj, entR_at s j ZO]
 rw [List.getElem?_eq_none ZO, List.getElem?_eq_none (by rw [entR_len]; omega)]
theorem exponentC (q : Int) (hq : -342 ≤ q ∧ q ≤ 308) (w : World) :
  Z0f P 284 [.int .i64 q] w fun r w' => r = .int .i64 (entS q).2.1 ∧ w = w' := by
 refine Z0o func284 rfl ntmps284 rfl ?_
 have he := exp_is hq
 unfold expF at he
 refine Z03 (Z00 (Zg (Z01 (Z02 ?_))))
 refine Zk [0] ?_
 refine Z03 (Z03 (Z00 (Zm ?_)))
 refine Zl ?_
 refine Z01 (Z02 ?_)
 refine Zk [0, 4] ?_
 (first | refine Z0c rfl ?_ ?_ | refine Z08 rfl ?_ ?_) <;> intro hc0
 ·refine Z03 (Z00 (Zm ?_))
  refine Z5M rfl rfl rfl (Z0l ZO) ?_
  refine Z20 rfl rfl rfl rfl (Z0l ZO) ?_
  refine Z3e rfl rfl rfl rfl ZO (Z2b (d := 524288) (by decide) (by decide)) ?_
  refine Z0W rfl rfl rfl rfl (Z0l ZO) ?_
  refine Zg (Z01 (Z02 ?_))
  refine Zk [2] ?_
  refine Z0i ?_
  refine Z07 ?_
  refine Z0e results284 rfl ?_
  refine ⟨_, rfl, ?_⟩
  rw [if_pos hc0] at he
  exact ⟨congrArg (Value.int .i64) (by rw [← he, show -q = 0 - q by omega]), rfl⟩
 refine Z0a (Z02 ?_)
 refine Zk [0] ?_
 refine Z03 (Z00 (Zm ?_))
 refine Z20 rfl rfl rfl rfl (Z0l ZO) ?_
 refine Z3e rfl rfl rfl rfl ZO (Z2b (d := 524288) (by decide) (by decide)) ?_
 refine Z0W rfl rfl rfl rfl (Z0l ZO) ?_
 refine Zg (Z01 (Z02 ?_))
 refine Zk [2] ?_
 refine Z0i ?_
 refine Z0e results284 rfl ?_
 refine ⟨_, rfl, ?_⟩
 rw [if_neg hc0] at he
 exact ⟨congrArg (Value.int .i64) he, rfl⟩
theorem closC (kp ks b o : Nat) (s : Int) (cs : List Value) (hs : 0 ≤ s ∧ s ≤ 40) (hc3 : cs[o + 3]? = some (.int .i64 0)) (hc4 : cs[o + 4]? = some (.pointer none)) (w : World) (hS : Sep w.heap.size (fps [As.blk kp 368 [.pointer (some ⟨b, o, none⟩)], As.blk ks 3 [.int .i64 s], As.blk b 107 cs]) w [As.blk kp 368 [.pointer (some ⟨b, o, none⟩)], As.blk ks 3 [.int .i64 s], As.blk b 107 cs]) :
  Z0f P 280 [.pointer (some ⟨kp, 0, none⟩), .pointer (some ⟨ks, 0, none⟩)] w fun r w' => ∃ rb v, r = .tuple #[] ∧ Z1C w w' [As.blk kp 368 [.pointer (some ⟨b, o, none⟩)], As.blk ks 3 [.int .i64 s], As.blk b 107 cs] [As.blk kp 368 [.pointer (some ⟨b, o, none⟩)], As.blk ks 3 [.int .i64 s], As.blk b 107 ((cs.set (o + 3) (.int .i64 1)).set (o + 4) (.pointer (some ⟨rb, 0, none⟩))), As.blk rb 126 [v], As.rk 350 3 v (entR s)] := by
 refine Z0o func280 rfl ntmps280 rfl ?_
 have H0 := St.startS hS
 have H0 : St w w.heap.size (fps [As.blk kp 368 [.pointer (some ⟨b, o, none⟩)], As.blk ks 3 [.int .i64 s], As.blk b 107 cs]) [As.blk kp 368 [.pointer (some ⟨b, o, none⟩)], As.blk ks 3 [.int .i64 s], As.blk b 107 cs] w := H0
 have hfe : Z0M s = (-342 + 16 * s, if s = 40 then 11 else 16, 0) := by unfold Z0M; rw [if_neg ZO]
 obtain ⟨q, hqd⟩ : ∃ q : Int, (Z0M s).1 = q := ⟨_, rfl⟩
 obtain ⟨nn, hnd⟩ : ∃ nn : Nat, (Z0M s).2.1 = (nn : Int) := ⟨(Z0M s).2.1.toNat, by rw [hfe]; dsimp only; split <;> omega⟩
 have hq1 : q = -342 + 16 * s := by rw [← hqd, hfe]
 have hn1 : (nn : Int) = if s = 40 then 11 else 16 := by rw [← hnd, hfe]
 have hnb : 11 ≤ nn ∧ nn ≤ 16 ∧ q + nn ≤ 309 := by split at hn1 <;> omega
 have hsl : (segR s).length = nn := by rw [segR_len, hnd]; omega
 have hse : ∀ j : Nat, j < nn → (segR s)[j]? = some (wrow (entS (q + j)).1) := fun j hj => by rw [segR_at s j ZO, hqd]
 have hsr := segR_rows s
 refine Z03 (Z00 ?_)
 refine Z05 H0 mem0 rfl rfl underlying368 rfl rfl rfl ?_
 refine Z0b rfl rfl rfl (Z09 fo104_1 rfl rfl rfl ?_)
 refine Z0I rfl rfl func281 rfl rfl (.cons rfl (.cons rfl .nil)) (syAddR (x := 0) ZO (H0.ok mem2) hc3) ?_
 rintro _ w1 ⟨_, hT⟩
 have H1 := hT _ _ _ _ _ (.tail (.tail .head)) H0
 refine Z01 (Z02 ?_)
 refine Zk [0, 1] ?_
 refine Z03 (Z00 ?_)
 refine Z05 H1 mem1 rfl rfl underlying3 rfl rfl rfl ?_
 refine Z13 rfl rfl func282 rfl rfl (.cons rfl .nil) (firstP s ZO _) ?_
 rw [hqd]
 refine Zm ?_
 refine Zx (Zx (Zx (Zg (Zg (Zg (Z01 (Z02 ?_)))))))
 refine Zk [0, 1, 2] ?_
 refine Z03 (Z00 ?_)
 refine Z05 H1 mem1 rfl rfl underlying3 rfl rfl rfl ?_
 refine Z0I rfl rfl func283 rfl rfl (.cons rfl .nil) (segP s ZO w1) ?_
 rintro _ w2 ⟨vw, rfl, hG⟩
 have H2 := hG _ _ _ _ H1
 simp only [Zca, Zna] at H2
 refine Zm ?_
 refine Zx (Zx (Zg (Zg (Z01 (Z02 ?_)))))
 refine Zk [0, 2, 5] ?_
 refine Z03 (Z00 (Zm ?_))
 refine Z1B rfl rfl underlying371 rfl (by first | exact H2.ik ZA mem0 | exact H2.ibl mem1 | exact H2.ibl mem2 | exact H2.ibl mem3 | assumption) ?_
 refine k_make (m := nn) (c := nn) H2 rfl rfl underlying126 ti350 rfl (by decide) (by simp [Value.oneCell']) rfl rfl ZO ZO ZO ZO (by simp only [maxLen]; omega) ZO (fun v3_2 w3 H3 => ?_)
 refine Z0X H3 ta126 rfl rfl (fun b3_3 w4 H4 => ?_)
 have h32 : v3_2.oneCell' = true := by
  obtain ⟨_, A, c, e, _⟩ := H4.ik (Z1g.rep (k := 3) (z := [.int .u64 0, .int .u64 0, .int .i64 0]) rfl (by simp [Value.oneCell']) nn) (.tail _ (.head _))
  rw [e]
  rfl
 refine Z0s H4 .head (by repeat (first | exact .zero | apply Z1F.succ)) rfl tz126 rfl rfl ZR (fun w5 H5 => ?_)
 refine Z01 (Z02 ?_)
 refine Zk [0, 2, 5, 7] ?_
 refine Z03 (Z03 (Z00 (Zm ?_)))
 refine Z1B rfl rfl underlying371 rfl (by first | exact H5.ibl mem0 | exact H5.ik ZA mem1 | exact H5.ik ZA mem2 | exact H5.ibl mem3 | exact H5.ibl mem4 | exact H5.ibl mem5 | assumption) ?_
 refine Zm (Z01 (Z02 ?_))
 refine Zk [0, 2, 7, 28, 29, 30] ?_
 refine Z0d ?_
 refine Z0z (ι := Nat × List (List Value)) (fun (z0 : Nat × List (List Value)) => match z0 with | ⟨i, rs⟩ => nn - i) (fun (z0 : Nat × List (List Value)) (w' : World) => match z0 with | ⟨i, rs⟩ => St w w.heap.size (fps [As.blk kp 368 [.pointer (some ⟨b, o, none⟩)], As.blk ks 3 [.int .i64 s], As.blk b 107 cs]) ([As.blk b3_3 126 [v3_2], As.rk 350 3 v3_2 rs, As.rk 270 2 vw (segR s), As.blk kp 368 [.pointer (some ⟨b, o, none⟩)], As.blk ks 3 [.int .i64 s], As.blk b 107 (cs.set (o + 3) (.int .i64 1))]) w' ∧ i ≤ nn ∧ rs.length = nn ∧ Z1g 3 rs ∧ ∀ j : Nat, j < i → rs[j]? = some (entW (q + j))) (fun (z0 : Nat × List (List Value)) => match z0 with | ⟨i, rs⟩ => [(30, .int .i64 (i : Int))]) [0, 2, 7, 28, 29] (0, List.replicate nn [.int .u64 0, .int .u64 0, .int .i64 0]) ?_ (.cons rfl (.cons rfl (.cons rfl (.cons rfl (.cons rfl .nil))))) ?_ ?_
 ·exact ⟨H5, ZO, by simp, Z1g.rep rfl (by simp [Value.oneCell']) _, fun j h => by omega⟩
 ·exact (.cons rfl ZN .nil)
 rintro ⟨i, rs⟩ w6 ⟨H6, hi, hrl, hRs, hrow⟩
 show RunC P _ _ _ (_ :: _) _
 refine Z03 (Z00 ?_)
 refine Zl ?_
 refine Z01 (Z02 (Z03 ?_))
 (first | refine Z0c rfl ?_ ?_ | refine Z08 rfl ?_ ?_) <;> intro hc0
 ·refine Z0a (Z02 ?_)
  refine Zk [0, 2, 7, 28, 29, 30] ?_
  refine Z03 (Z0d (Z03 (Z00 ?_)))
  have hi1 : i < nn := by omega
  refine Zm ?_
  refine Z3J (j := i) rfl rfl underlying371 Z5j (by decide) rfl rfl (by first | exact H6.ibl mem0 | exact H6.ik ZA mem1 | exact H6.ik ZA mem2 | exact H6.ibl mem3 | exact H6.ibl mem4 | exact H6.ibl mem5 | assumption) ZP ZI (fun ad6_1 ac6_1 hA6_1 => ?_)
  refine Z2w (j := i) rfl rfl underlying270 rfl Z5j rfl hA6_1 (by first | exact H6.ibl mem0 | exact H6.ik ZA mem1 | exact H6.ik ZA mem2 | exact H6.ibl mem3 | exact H6.ibl mem4 | exact H6.ibl mem5 | assumption) (hse i hi1) ?_
  refine Z0X H6 ta270 rfl rfl (fun b6_3 w7 H7 => ?_)
  refine Zg ?_
  refine Z0m H7 .head (.zero (.zero .nil)) rfl Z5j rfl rfl ZC (fun w8 H8 => ?_)
  refine Z01 (Z02 ?_)
  refine Zk [0, 2, 7, 8, 9, 28, 29, 30] ?_
  refine c_tail 9 ZK ZK ?_
  have H9 := H8.drewn
  refine Z05 H9 mem1 rfl rfl underlying126 rfl rfl rfl ?_
  refine Zm ?_
  refine Z1b H9 mem0 rfl rfl underlying270 rfl Z5j rfl (.take (.take .nil)) ?_
  refine Zm (Zm ?_)
  refine Z0y rfl rfl rfl rfl (Z0l ZO) ?_
  refine Z13 rfl rfl func284 rfl rfl (.cons rfl .nil) (exponentC (q + i) ZO _) ?_
  refine Z16 rfl rfl pl350 ta350 (.row rfl rfl rfl (.zero (.zero .nil)) (.one rfl rfl ZR (.succ (.succ .zero)) .nil)) ?_
  refine Z3J (j := i) rfl rfl underlying126 tz350 (by decide) rfl rfl (by first | exact H9.ibl mem0 | exact H9.ibl mem1 | exact H9.ik ZA mem2 | exact H9.ik ZA mem3 | exact H9.ibl mem4 | exact H9.ibl mem5 | exact H9.ibl mem6 | assumption) ZP ZI (fun ad7_8 ac7_8 hA7_8 => ?_)
  refine Z01 ?_
  refine e_tail ?_
  refine k_store (j := i) H9 (.tail (.tail .head)) ZA (by decide) hA7_8 rfl tz350 rfl rfl rfl ZI ZC (fun w10 H10 => ?_)
  refine Z01 ?_
  refine Z0F ?_
  refine Z02 ?_
  refine Zk [0, 2, 7, 28, 29, 30] ?_
  refine Z00 ?_
  refine Z0y rfl rfl rfl rfl (Z0l ZO) ?_
  refine Zm (Z01 ?_)
  have H11 := St.del .head H10
  refine Z0p (i := (i, rs)) (i + 1, rs.set i (entW (q + i))) ?_ ?_ (.cons rfl (.cons rfl (.cons rfl (.cons rfl (.cons rfl .nil))))) ?_
  ·first | omega | (simp; omega)
  ·refine ⟨H11, ZO, by simpa using hrl, hRs.set rfl (by simp [Value.oneCell']) _, fun j h => ?_⟩
   rw [Z7b ZO]
   split
   ·rename_i h3; rw [h3]
   exact hrow j ZO
  exact (.cons rfl ZN .nil)
 refine Z0H ?_
 refine Z06 ?_
 refine Z06 ?_
 refine Z0h ?_
 refine Z02 ?_
 refine Zk [0, 7] ?_
 refine Z00 ?_
 refine Z05 H6 mem3 rfl rfl underlying368 rfl rfl rfl ?_
 refine Z0b rfl rfl rfl (Z09 fo104_2 rfl rfl rfl ?_)
 refine Z0I rfl rfl func285 rfl rfl (.cons rfl (.cons rfl .nil)) (syStorePR (u := .pointer none) (v := v3_2) (H6.ok mem5) (by rw [List.getElem?_set_ne ZO]; exact hc4) (H6.ok mem0)) ?_
 rintro _ w12 ⟨_, hT⟩
 have H12 := hT _ _ _ _ _ (.tail (.tail (.tail (.tail (.tail .head))))) H6
 refine Z01 ?_
 try dsimp only
 refine e_done0 results280 ?_
 refine ⟨_, rfl, ?_⟩
 have H18 := St.del (.tail (.tail (.tail (.tail (.tail .head))))) (St.front5 (St.front5 (St.front5 (St.front1 (St.front1 H12)))))
 obtain rfl : i = nn := by omega
 have es : rs = entR s := entR_eq (by rw [hnd]; omega) (fun j hj => by rw [hqd]; exact hrow j ZO)
 rw [es] at H18
 exact ⟨b3_3, v3_2, rfl, (H18.cast rfl).transS⟩
abbrev Cac := List (Option (Nat × Value))
def Z6S (x : Option (Nat × Value)) : List Value := match x with
 | none => [.int .u32 0, .int .i32 0, .int .u32 0, .int .i64 0, .pointer none]
 | some y => [.int .u32 1, .int .i32 0, .int .u32 0, .int .i64 1, .pointer (some ⟨y.1, 0, none⟩)]
def cacC (L : Cac) : List Value := (L.map Z6S).flatten
theorem pieceC_rows (L : Cac) : Z1g 5 (L.map Z6S) := fun r hr => by
 obtain ⟨x, _, rfl⟩ := List.mem_map.1 hr
 cases x <;> exact ⟨rfl, by simp [Z6S, Value.oneCell']⟩
theorem Z5z {L : Cac} {s : Nat} {x : Option (Nat × Value)} (h : L[s]? = some x) (i : Nat) (hi : i < 5) : (cacC L)[s * 5 + i]? = (Z6S x)[i]? :=
 (pieceC_rows L).at s (Z6S x) (by simp [h]) i hi
theorem Z79 (L : Cac) : (cacC L).length = L.length * 5 := by
 unfold cacC
 rw [(pieceC_rows L).len, List.length_map]
theorem cacC_set {L : Cac} {s p : Nat} {v : Value} (h : L[s]? = some none) :
  cacC (L.set s (some (p, v))) = (((((cacC L).set (s * 5 + 1) (.int .i32 1)).set (s * 5 + 3) (.int .i64 1)).set (s * 5 + 4) (.pointer (some ⟨p, 0, none⟩))).set (s * 5) (.int .u32 1)).set (s * 5 + 1) (.int .i32 0) := by
 have hs : s < L.length := (List.getElem?_eq_some_iff.1 h).1
 have hlen := Z79 L
 apply List.ext_getElem?
 intro j
 rcases Nat.lt_or_ge j (L.length * 5) with hj | hj
 ·obtain ⟨t, i, hi, rfl⟩ : ∃ t i, i < 5 ∧ j = t * 5 + i := ⟨j / 5, j % 5, ZO, ZO⟩
  have ht : t < L.length := by omega
  by_cases e : t = s
  ·subst e
   rw [Z5z (x := some (p, v)) (by simp [hs]) i hi]
   have h5 := Z5z h i hi
   simp only [List.getElem?_set, List.length_set]
   have : i = 0 ∨ i = 1 ∨ i = 2 ∨ i = 3 ∨ i = 4 := by omega
   rcases this with rfl | rfl | rfl | rfl | rfl <;> simp [Z6S, hlen] at h5 ⊢ <;> first | omega | (rw [h5]; done) | skip
  obtain ⟨x, hx⟩ : ∃ x, L[t]? = some x := ⟨L[t], by simp [ht]⟩
  rw [Z5z (x := x) (by rw [List.getElem?_set_ne ZO]; exact hx) i hi]
  rw [List.getElem?_set_ne ZO, List.getElem?_set_ne ZO, List.getElem?_set_ne ZO, List.getElem?_set_ne ZO, List.getElem?_set_ne ZO, Z5z hx i hi]
 rw [List.getElem?_eq_none (by rw [Z79, List.length_set]; omega), List.getElem?_eq_none (by simp only [List.length_set]; omega)]
def inR1 (s : Nat) (x : Option (Nat × Value)) : List As := match x with
 | none => []
 | some y => [As.blk y.1 126 [y.2], As.rk 350 3 y.2 (entR s)]
def inR (L : Cac) : List As := (L.mapIdx inR1).flatten
theorem Z6l {L : Cac} {A : As} : A ∈ inR L ↔ ∃ s x, L[s]? = some x ∧ A ∈ inR1 s x := by
 unfold inR
 rw [List.mem_flatten]
 constructor
 ·rintro ⟨l, hl, hA⟩
  obtain ⟨s, hs, rfl⟩ := List.mem_iff_getElem.1 hl
  rw [List.length_mapIdx] at hs
  exact ⟨s, L[s], by simp [hs], by simpa using hA⟩
 rintro ⟨s, x, hx, hA⟩
 obtain ⟨hs, rfl⟩ := List.getElem?_eq_some_iff.1 hx
 exact ⟨_, List.mem_iff_getElem.2 ⟨s, by simpa using hs, by simp⟩, hA⟩
theorem inR_set {L : Cac} {s p : Nat} {v : Value} (h : L[s]? = some none) (A : As) : A ∈ inR (L.set s (some (p, v))) ↔ A ∈ inR L ++ [As.blk p 126 [v]] ++ [As.rk 350 3 v (entR s)] := by
 have hs : s < L.length := (List.getElem?_eq_some_iff.1 h).1
 rw [Z6l]
 simp only [List.mem_append, List.mem_singleton, Z6l]
 constructor
 ·rintro ⟨t, x, hx, hA⟩
  by_cases e : t = s
  ·subst e
   obtain rfl : some (p, v) = x := by simpa [hs] using hx
   simp only [inR1, List.mem_cons, List.not_mem_nil, or_false] at hA
   rcases hA with h1 | h1
   ·exact .inl (.inr h1)
   exact .inr h1
  rw [List.getElem?_set_ne ZO] at hx
  exact .inl (.inl ⟨t, x, hx, hA⟩)
 rintro ((⟨t, x, hx, hA⟩ | h1) | h1)
 ·by_cases e : t = s
  ·subst e
   obtain rfl : none = x := by rw [h] at hx; exact Option.some.inj hx
   simp [inR1] at hA
  exact ⟨t, x, by rw [List.getElem?_set_ne ZO]; exact hx, hA⟩
 ·exact ⟨s, some (p, v), by simp [hs], by simp [inR1, h1]⟩
 exact ⟨s, some (p, v), by simp [hs], by simp [inR1, h1]⟩
def CacS (L : Cac) (s : Nat) (L' : Cac) (p : Nat) (v : Value) : Prop := L'[s]? = some (some (p, v)) ∧ (L' = L ∨ (L[s]? = some none ∧ L' = L.set s (some (p, v))))
theorem CacS.len {L L' : Cac} {s p : Nat} {v : Value} (h : CacS L s L' p v) : L'.length = L.length := by
 rcases h.2 with rfl | ⟨_, rfl⟩
 ·rfl
 simp
abbrev dcR (kp ks b s : Nat) (L : Cac) : List As := [As.blk kp 368 [.pointer (some ⟨b, s * 5, none⟩)], As.blk ks 3 [.int .i64 (s : Int)], As.blk b 107 (cacC L), As.many (inR L)]
theorem doC (L : Cac) (hL : L.length = 41) (s : Nat) (hs : s < 41) (kp ks b : Nat) (w : World) (hS : Sep w.heap.size (fps (dcR kp ks b s L)) w (dcR kp ks b s L)) :
  Z0f P 279 [.pointer (some ⟨b, s * 5, none⟩), .func (.func 280) #[] #[.pointer (some ⟨kp, 0, none⟩), .pointer (some ⟨ks, 0, none⟩)]] w fun r w' => r = .tuple #[] ∧ ∃ L' p v, CacS L s L' p v ∧ Z1C w w' (dcR kp ks b s L) (dcR kp ks b s L') := by
 obtain ⟨x, hx⟩ : ∃ x, L[s]? = some x := ⟨L[s], by simp [hL, hs]⟩
 have hw : St w w.heap.size (fps (dcR kp ks b s L)) (dcR kp ks b s L) w := St.startS hS
 have hbk : (As.blk b 107 (cacC L)).ok w := hw.ok (.tail _ (.tail _ (.head _)))
 have c0 := Z5z hx 0 ZO
 have c1 := Z5z hx 1 ZO
 have c3 := Z5z hx 3 ZO
 have c4 := Z5z hx 4 ZO
 rw [Nat.add_zero] at c0
 rcases x with _ | ⟨p, v⟩
 ·-- built now
  have hl := Z79 L
  have hb0 := Z55 hbk (show (cacC L)[s * 5]? = some (.int .u32 0) from c0)
  have hb1 := Z55 hbk (show (cacC L)[s * 5 + 1]? = some (.int .i32 0) from c1)
  let cs1 := (cacC L).set (s * 5 + 1) (.int .i32 1)
  have turn : ∀ (w0 : World) (B : Nat) (M : Nat → Prop) (σ : List As), St w0 B M (dcR kp ks b s L ++ σ) w → St w0 B M ([As.blk kp 368 [.pointer (some ⟨b, s * 5, none⟩)], As.blk ks 3 [.int .i64 (s : Int)], As.blk b 107 cs1] ++ (As.many (inR L) :: σ)) (w.setCell ⟨b, s * 5 + 1, none⟩ (.int .i32 1)) := fun w0 B M σ h =>
   Z6E h (.tail (.tail .head))
  have H1 := turn _ _ _ [] (by simpa using hw)
  have hc3 : cs1[s * 5 + 3]? = some (.int .i64 0) := by
   show ((cacC L).set (s * 5 + 1) (.int .i32 1))[s * 5 + 3]? = _
   rw [List.getElem?_set_ne ZO]
   exact c3
  have hc4 : cs1[s * 5 + 4]? = some (.pointer none) := by
   show ((cacC L).set (s * 5 + 1) (.int .i32 1))[s * 5 + 4]? = _
   rw [List.getElem?_set_ne ZO]
   exact c4
  have hclo := closC kp ks b (s * 5) (s : Int) cs1 ZO hc3 hc4 _ (St.rows H1)
  refine Calls.mono (syDo1 b (s * 5) #[.pointer (some ⟨kp, 0, none⟩), .pointer (some ⟨ks, 0, none⟩)] (fun w2 => ∃ rb v, Z1C (w.setCell ⟨b, s * 5 + 1, none⟩ (.int .i32 1)) w2 [As.blk kp 368 [.pointer (some ⟨b, s * 5, none⟩)], As.blk ks 3 [.int .i64 (s : Int)], As.blk b 107 cs1] [As.blk kp 368 [.pointer (some ⟨b, s * 5, none⟩)], As.blk ks 3 [.int .i64 (s : Int)], As.blk b 107 ((cs1.set (s * 5 + 3) (.int .i64 1)).set (s * 5 + 4) (.pointer (some ⟨rb, 0, none⟩))), As.blk rb 126 [v], As.rk 350 3 v (entR s)]) w hb0.1 hb1.1 hb1.2 (Calls.mono hclo fun e w2 he => ?_) ?_) fun e w' he => ?_
  ·obtain ⟨_, rfl, rb, v, rfl, hT⟩ := he
   exact ⟨rfl, rb, v, hT⟩
  ·rintro w2 ⟨rb, v, hT⟩
   have H2 := hT _ _ _ _ H1
   have hk := H2.ok (.tail _ (.tail _ (.head _)))
   have k0 := Z55 hk (o := s * 5) (v := .int .u32 0) (by
    rw [List.getElem?_set_ne ZO, List.getElem?_set_ne ZO]
    show ((cacC L).set (s * 5 + 1) (.int .i32 1))[s * 5]? = _
    rw [List.getElem?_set_ne ZO]
    exact c0)
   have k1 := Z55 hk (o := s * 5 + 1) (v := .int .i32 1) (by
    rw [List.getElem?_set_ne ZO, List.getElem?_set_ne ZO]
    show ((cacC L).set (s * 5 + 1) (.int .i32 1))[s * 5 + 1]? = _
    rw [List.getElem?_set_self ZO])
   exact ⟨k0.1, k1.1, k0.2, k1.2⟩
  obtain ⟨rfl, w2, ⟨rb, v, hT⟩, rfl⟩ := he
  refine ⟨_, rfl, rfl, L.set s (some (rb, v)), rb, v, ⟨by simp [hL, hs], .inr ⟨hx, rfl⟩⟩, fun w0 B M σ h => ?_⟩
  have h2 := hT _ _ _ _ (turn _ _ _ _ h)
  have h3 := Z6E (o := s * 5) (x := .int .u32 1) h2.drewn (.tail (.tail .head))
  have h4 := Z6E (o := s * 5 + 1) (x := .int .i32 0) h3 (.tail (.tail .head))
  have h5 := St.frontL (l := [_, _, _, _, _]) h4
  have h6 := many_in (St.frontL (l := [_, _, _, _]) h5)
  have h7 := many_in (St.frontL (l := [_, _, _, _]) h6)
  have h8 := many_iff h7 (τ' := inR (L.set s (some (rb, v)))) (inR_set hx)
  have h9 := St.frontL (l := [_, _, _]) h8
  have h10 := St.frontL (l := [_, _, _]) h9
  have h11 := St.frontL (l := [_, _, _]) h10
  unfold dcR
  rw [cacC_set hx]
  exact h11
 have hb0 := Z55 hbk (show (cacC L)[s * 5]? = some (.int .u32 1) from c0)
 refine Calls.mono (syDo2 ⟨b, s * 5, none⟩ _ w hb0.1) fun e w' he => ?_
 obtain ⟨rfl, rfl⟩ := he
 exact ⟨_, rfl, rfl, L, p, v, ⟨hx, .inl rfl⟩, fun w0 B M σ h => h⟩
abbrev cacW (b : Nat) (L : Cac) : List As := [As.blk b 107 (cacC L), As.many (inR L)]
def hasP (L : Cac) (s : Nat) : Bool := match L[s]? with | some (some _) => true | _ => false
def pcP (x : Option (Nat × Value)) : Option Addr := x.map fun y => ⟨y.1, 0, none⟩
theorem hasP_at {L : Cac} {s : Nat} {x : Option (Nat × Value)} (h : L[s]? = some x) : hasP L s = x.isSome := by
 unfold hasP
 rw [h]
 cases x <;> rfl
theorem CacS.has {L L' : Cac} {s p : Nat} {v : Value} (h : CacS L s L' p v) (t : Nat) : hasP L' t = (decide (t = s) || hasP L t) := by
 have hs : s < L'.length := (List.getElem?_eq_some_iff.1 h.1).1
 by_cases e : t = s
 ·subst e
  rw [hasP_at h.1]
  simp
 rcases h.2 with h2 | ⟨_, h2⟩
 ·rw [h2]
  simp [e]
 rw [h2]
 unfold hasP
 rw [List.getElem?_set_ne ZO]
 simp [e]
theorem cacLd {b : Nat} {L : Cac} {s : Nat} {x : Option (Nat × Value)} {w : World} (hb : (As.blk b 107 (cacC L)).ok w) (hm : (As.many (inR L)).ok w) (hx : L[s]? = some x) : Z0f P 64 [.pointer (some ⟨b, s * 5 + 4, none⟩)] w fun r w' => r = .pointer (pcP x) ∧ w = w' := by
 have hc := Z5z hx 4 ZO
 rcases x with _ | ⟨p, v⟩
 ·exact syLoadPR0 hb hc
 exact syLoadPR hb hc (hm _ (Z6l.2 ⟨s, _, hx, .head _⟩))
theorem cac_ik {L : Cac} {s p : Nat} {v : Value} {w : World} (hm : (As.many (inR L)).ok w) (hx : L[s]? = some (some (p, v))) : (As.blk p 126 [v]).ok w ∧ IK w 3 v (entR s) :=
 ⟨hm _ (Z6l.2 ⟨s, _, hx, .head _⟩), Own.ik (entR_rows s) (hm _ (Z6l.2 ⟨s, _, hx, .tail _ (.head _)⟩))⟩
def CacQ (L : Cac) (q : Int) (L' : Cac) : Prop := if -342 ≤ q ∧ q ≤ 308 then ∃ p v, CacS L ((q + 342) / 16).toNat L' p v else L' = L
theorem entR_q {q : Int} (hq : -342 ≤ q ∧ q ≤ 308) : (entR (((q + 342) / 16).toNat : Int))[((q + 342) % 16).toNat]? = some (entW q) := by
 have hs : (((q + 342) / 16).toNat : Int) = (q + 342) / 16 := by omega
 rw [hs, entR_at]
 ·unfold Z0M
  rw [if_neg ZO]
  dsimp only
  rw [show -342 + 16 * ((q + 342) / 16) + (((q + 342) % 16).toNat : Int) = q by omega]
 unfold Z0M
 rw [if_neg ZO]
 dsimp only
 split <;> omega
theorem newC  (w : World) :
  Z0f P 20 [] w fun r w' => ∃ b, r = .pointer (some ⟨b, 0, none⟩) ∧ Grow w w' (cacW b (List.replicate 41 none)) := by
 refine Z0o func20 rfl ntmps20 rfl ?_
 have H0 := St.start w
 refine Z03 (Z00 (Zg (Z01 (Z02 ?_))))
 refine Zk [] ?_
 refine Z03 (Z00 ?_)
 refine Z16 rfl rfl pl107 ta107 .nil ?_
 refine Z57 H0 rfl rfl rfl (fun b1_1 w1 H1 => ?_)
 refine Zg (Z01 (Z02 ?_))
 refine Zk [0] ?_
 refine Z0i ?_
 refine Z0e results20 rfl ?_
 refine ⟨_, rfl, ?_⟩
 have hz : (As.blk b1_1 107 _ :: ([] : List As)) = [As.blk b1_1 107 (cacC (List.replicate 41 none))] := rfl
 have h1 := many_iff (many_nil (H1.cast hz)) (τ' := inR (List.replicate 41 none)) (fun A => by rw [Z6l]; exact ⟨fun ⟨s, x, hx, hA⟩ => (by obtain ⟨hs, h2⟩ := List.getElem?_eq_some_iff.1 hx; rw [List.getElem_replicate] at h2; subst h2; exact hA), fun h => (List.not_mem_nil h).elim⟩)
 exact ⟨_, rfl, (h1.front1).grows⟩
theorem hasC (s : Int) (w : World) :
  Z0f P 62 [.int .i64 s] w fun r w' => r = .bool (decide (0 ≤ s ∧ s < 41)) ∧ w = w' := by
 refine Z0o func62 rfl ntmps62 rfl ?_
 refine Z03 (Z00 (Zg (Z01 (Z02 ?_))))
 refine Zk [0] ?_
 refine Z03 (Z00 (Zm ?_))
 refine Zh ?_
 refine Zm ?_
 apply Z47 2 [] rfl rfl (.cons rfl .nil) rfl rfl (fun _ => rfl) rfl rfl rfl
 ·intro hg1_3
  refine Zm ?_
  refine Zl ?_
  refine Z01 ?_
  exact Z0O rfl (.cons rfl (ZT hg1_3) .nil)
 refine Zg (Z01 (Z02 ?_))
 refine Zk [2] ?_
 refine Z0i ?_
 refine Z0e results62 rfl ?_
 refine ⟨_, rfl, ?_⟩
 exact ⟨rfl, rfl⟩
theorem completeC (b : Nat) (L : Cac) (hL : L.length = 41) (s : Nat) (hs : s < 41) (w : World) (hS : Sep w.heap.size (fps (cacW b L)) w (cacW b L)) :
  Z0f P 261 [.pointer (some ⟨b, 0, none⟩), .int .i64 (s : Int)] w fun r w' => ∃ v L' p, r = v ∧ CacS L s L' p v ∧ Z1C w w' (cacW b L) (cacW b L') := by
 refine Z0o func261 rfl ntmps261 rfl ?_
 have H0 : St w w.heap.size (fps (cacW b L)) (cacW b L) w := St.startS hS
 refine Z03 (Z00 ?_)
 refine l_box1 H0 rfl rfl rfl ZR (fun b0_0 w1 H1 => ?_)
 refine Zg (Z01 (Z02 ?_))
 refine Zk [0, 3] ?_
 refine Z03 ?_
 have H2 := H1.drewn
 refine Z1a (n := 7) [Zz,Zz,Zz,Zz,Zz,Zz,Zz] (fun wS => (As.blk b0_0 3 [.int .i64 (s : Int)]).ok wS) ZK rfl rfl ?_
 apply Zu (L' := [Zy,Zz,Zz,Zz,Zz,Zz,Zz]) 0 (H2.ok mem0)
 ·intro wS sS
  refine Zm (Z01 ?_)
  exact Z04 rfl
 refine Z0N (L' := [Zy,Zz,Zy,Zz,Zz,Zz,Zz]) 2 rfl ZK ZK ZK rfl rfl rfl (H2.ok mem0) rfl ?_
 apply Zu (L' := [Zy,Zy,Zy,Zz,Zz,Zz,Zz]) 1 (H2.ok mem0)
 ·intro wS sS
  refine Z05 (Z0r sS) mem0 rfl rfl underlying3 rfl rfl rfl ?_
  refine Z01 ?_
  exact Z04 rfl
 apply Zu (L' := [Zy,Zy,Zy,Zy,Zz,Zz,Zz]) 3 (H2.ok mem0)
 ·intro wS sS
  refine Z09 fo107_0 rfl rfl rfl (Z01 ?_)
  exact Z04 rfl
 apply Zu (L' := [Zy,Zy,Zy,Zy,Zy,Zz,Zz]) 4 (H2.ok mem0)
 ·intro wS sS
  refine Z5r (j := s) (n := 5) rfl rfl underlying105 tz104 rfl rfl rfl hs ?_
  refine Z01 ?_
  exact Z04 rfl
 refine Z0v (L' := [Zy,Zy,Zy,Zy,Zy,Zy,Zz]) 5 ZK rfl rfl ?_
 refine Z0X H2 ta368 rfl rfl (fun b1_5 w3 H3 => ?_)
 refine Z01 ?_
 refine Z0n (H3.ok mem1) ?_
 refine Z0v (L' := [Zy,Zy,Zy,Zy,Zy,Zy,Zy]) 6 ZK rfl rfl ?_
 refine Z0s H3 .head (by repeat (first | exact .zero | apply Z1F.succ)) rfl tz368 rfl rfl ZR (fun w4 H4 => ?_)
 refine Z01 ?_
 refine Z0n (H4.ok mem1) ?_
 refine Z0B ZK ?_
 refine Z02 ?_
 refine Zk [3, 5] ?_
 refine Z03 (Z00 ?_)
 refine Z05 H4 mem0 rfl rfl underlying368 rfl rfl rfl ?_
 refine Z0b rfl rfl rfl (Z09 fo104_0 rfl rfl rfl ?_)
 refine Z1I rfl rfl (.cons rfl (.cons rfl .nil)) ?_
 have H5 := St.frontL (l := [_, _, _]) H4
 simp only [Zca, Zna] at H5
 have H6 := St.frontL (l := [_, _, _]) H5
 simp only [Zca, Zna] at H6
 have H7 := St.frontL (l := [_, _, _]) H6
 simp only [Zca, Zna] at H7
 have H8 := St.frontL (l := [_, _, _]) H7
 simp only [Zca, Zna] at H8
 refine Z0I rfl rfl func279 rfl rfl (.cons rfl (.cons rfl .nil)) (doC L hL s hs b1_5 b0_0 b w4 (St.rows (τ := dcR b1_5 b0_0 b s L) H8)) ?_
 rintro _ w9 ⟨rfl, L', p, v, hC, hX⟩
 have H9 := hX _ _ _ _ H8
 simp only [dcR, List.cons_append, List.nil_append] at H9
 refine Z01 (Z02 ?_)
 refine Zk [5] ?_
 refine Z03 (Z00 ?_)
 have hpk := cac_ik (H9.ok (.tail _ (.tail _ (.tail _ (.head _))))) hC.1
 refine Z05 H9 mem0 rfl rfl underlying368 rfl rfl rfl ?_
 refine Z0b rfl rfl rfl (Z09 fo104_2 rfl rfl rfl ?_)
 refine Z13 rfl rfl func64 rfl rfl (.cons rfl .nil) (cacLd (H9.ok mem2) (H9.ok mem3) hC.1) ?_
 refine Z0b rfl rfl rfl ?_
 refine Z05 (Z0r hpk.1) mem0 rfl rfl underlying126 rfl rfl rfl ?_
 refine Zg (Z01 (Z02 ?_))
 refine Zk [4] ?_
 refine Z0i ?_
 refine Z0e results261 rfl ?_
 refine ⟨_, rfl, ?_⟩
 have H13 := St.del (.tail (.tail .head)) (St.del (.tail (.tail (.tail .head))) (St.front3 (St.front3 H9)))
 exact ⟨v, L', p, rfl, hC, H13.transS⟩
theorem EntryC (b : Nat) (L : Cac) (hL : L.length = 41) (q : Int) (hq : -9223372036854775808 ≤ q ∧ q ≤ 9223372036854775807) (w : World) (hS : Sep w.heap.size (fps (cacW b L)) w (cacW b L)) :
  Z0f P 236 [.pointer (some ⟨b, 0, none⟩), .int .i64 q] w fun r w' => ∃ L', r = .tuple #[Z44 (entS q).1, .int .i64 (entS q).2.1, .int .i64 (entS q).2.2] ∧ CacQ L q L' ∧ Z1C w w' (cacW b L) (cacW b L') := by
 refine Z0o func236 rfl ntmps236 rfl ?_
 have H0 : St w w.heap.size (fps (cacW b L)) (cacW b L) w := St.startS hS
 refine Z03 (Z00 ?_)
 refine Z0X H0 ta270 rfl rfl (fun b0_0 w1 H1 => ?_)
 refine Zg (Zg (Z01 (Z02 ?_)))
 refine Zk [0, 1, 4] ?_
 refine Z03 (Z00 (Zm ?_))
 refine Z13 rfl rfl func141 rfl rfl (.cons rfl .nil) (whereP q hq _) ?_
 refine Zm ?_
 refine Zx (Zx (Zx (Zg (Zg (Zg (Z01 (Z02 ?_)))))))
 refine Zk [0, 4, 6, 7, 8] ?_
 refine Z03 (Z03 (Z00 (Zm ?_)))
 refine Zo ?_
 refine Z01 (Z02 ?_)
 refine Zk [0, 4, 6, 7, 8, 17] ?_
 (first | refine Z0c rfl ?_ ?_ | refine Z08 rfl ?_ ?_) <;> intro hc0
 ·have hbad : q < -342 ∨ 308 < q := by
   rcases Int.lt_or_le q (-342) with h | h
   ·exact .inl h
   rcases Int.lt_or_le 308 q with h2 | h2
   ·exact .inr h2
   exact absurd (show (Z0K q).2.2 = 0 by unfold Z0K; rw [if_neg ZO]) hc0
  have ewe : Z0K q = (0, 0, 60) := if_pos hbad
  have ene : entS q = (0, 0, 60) := if_pos hbad
  refine Z03 (Z00 ?_)
  refine Z1b H1 mem0 rfl rfl underlying270 rfl Z5j rfl (.take (.take .nil)) ?_
  refine Zm ?_
  refine Z0m H1 .head (.zero (.zero .nil)) rfl Z5j rfl rfl ZC (fun w2 H2 => ?_)
  refine Zg (Zg (Z01 (Z02 ?_)))
  refine Zk [4, 5, 6] ?_
  refine Z0i ?_
  refine Z07 ?_
  refine Z12 results236 (.cell rfl (Z0E H2 mem0 underlying270 rfl Z5j (.take (.take .nil))) (.tmp rfl (.tmp rfl .nil))) rfl ?_
  refine ⟨_, rfl, ?_⟩
  have H5 := St.del (.tail (.tail .head)) (St.front2 (St.front2 H2))
  refine ⟨L, ?_, ?_, H5.transS⟩
  ·rw [ene, ewe]
   all_goals rfl
  unfold CacQ
  rw [if_neg ZO]
 have hgood : -342 ≤ q ∧ q ≤ 308 := by
  rcases Int.lt_or_le q (-342) with h | h
  ·exact absurd (show (Z0K q).2.2 = 60 by unfold Z0K; rw [if_pos ZO]) ZO
  rcases Int.lt_or_le 308 q with h2 | h2
  ·exact absurd (show (Z0K q).2.2 = 60 by unfold Z0K; rw [if_pos ZO]) ZO
  exact ⟨h, h2⟩
 have ewe : Z0K q = ((q + 342) / 16, (q + 342) % 16, 0) := if_neg ZO
 refine Z0a (Z02 ?_)
 refine Zk [0, 4, 7, 8] ?_
 refine Z03 (Z00 (Zm (Zm ?_)))
 refine Z0j (s := 21) (v' := .int .i64 (((q + 342) / 16).toNat : Int)) rfl (congrArg (Value.int .i64) (by rw [ewe]; dsimp only; omega)) ?_
 have H6 := St.frontL (l := [_, _]) H1
 simp only [Zca, Zna] at H6
 have H7 := St.frontL (l := [_, _]) H6
 simp only [Zca, Zna] at H7
 refine Z0I rfl rfl func261 rfl rfl (.cons rfl (.cons rfl .nil)) (completeC b L hL ((q + 342) / 16).toNat ZO w1 (St.rows (τ := cacW b L) H7)) ?_
 rintro v w8 ⟨_, L', p, rfl, hC, hX⟩
 have H8 := hX _ _ _ _ H7
 simp only [cacW, List.cons_append, List.nil_append] at H8
 have hik := (cac_ik (H8.ok (.tail _ (.head _))) hC.1).2
 refine Zm ?_
 refine Z0j (s := 23) (v' := .int .i64 (((q + 342) % 16).toNat : Int)) rfl (congrArg (Value.int .i64) (by rw [ewe]; dsimp only; omega)) ?_
 have hent := entR_q hgood
 have hel := (List.getElem?_eq_some_iff.1 hent).1
 refine Z3J (j := ((q + 342) % 16).toNat) rfl rfl underlying126 tz350 (by decide) rfl rfl (by first | exact H8.ibl mem0 | exact H8.ibl mem2 | assumption) ZP ZI (fun ad4_4 ac4_4 hA4_4 => ?_)
 refine Z2w (j := ((q + 342) % 16).toNat) rfl rfl underlying350 rfl tz350 rfl hA4_4 (by first | exact H8.ibl mem0 | exact H8.ibl mem2 | assumption) (hent) ?_
 refine Z0X H8 ta350 rfl rfl (fun b4_6 w9 H9 => ?_)
 refine Z0m H9 .head (.zero (.zero (.zero .nil))) rfl tz350 rfl rfl ZC (fun w10 H10 => ?_)
 refine Z01 (Z02 ?_)
 refine Zk [4, 9] ?_
 refine Z03 ?_
 have H11 := H10.drewn
 refine Z1a (n := 7) [Zz,Zz,Zz,Zz,Zz,Zz,Zz] (fun wS => (As.blk b4_6 350 (entW q)).ok wS) ZK rfl rfl ?_
 apply Zu (L' := [Zy,Zz,Zz,Zz,Zz,Zz,Zz]) 0 (H11.ok mem0)
 ·intro wS sS
  refine Z09 fo350_0 rfl rfl rfl (Z01 ?_)
  exact Z04 rfl
 apply Zu (L' := [Zy,Zy,Zz,Zz,Zz,Zz,Zz]) 1 (H11.ok mem0)
 ·intro wS sS
  refine Z1b (Z0r sS) mem0 rfl rfl underlying270 rfl Z5j rfl (.take (.take .nil)) ?_
  refine Z01 ?_
  exact Z04 rfl
 apply Zu (L' := [Zy,Zy,Zy,Zz,Zz,Zz,Zz]) 2 (H11.ok mem0)
 ·intro wS sS
  refine Z09 fo350_1 rfl rfl rfl (Z01 ?_)
  exact Z04 rfl
 apply Zu (L' := [Zy,Zy,Zy,Zy,Zz,Zz,Zz]) 3 (H11.ok mem0)
 ·intro wS sS
  refine Z05 (Z0r sS) mem0 rfl rfl underlying3 rfl rfl rfl ?_
  refine Z01 ?_
  exact Z04 rfl
 refine Z0v (L' := [Zy,Zy,Zy,Zy,Zy,Zz,Zz]) 4 ZK rfl rfl ?_
 refine Z0m H11 (.tail (.tail (.tail .head))) (.zero (.zero .nil)) rfl Z5j rfl rfl ZC (fun w12 H12 => ?_)
 refine Z01 ?_
 refine Z0n (H12.ok mem0) ?_
 apply Zu (L' := [Zy,Zy,Zy,Zy,Zy,Zy,Zz]) 5 (H12.ok mem0)
 ·intro wS sS
  refine Zg (Z01 ?_)
  exact Z04 rfl
 apply Zu (L' := [Zy,Zy,Zy,Zy,Zy,Zy,Zy]) 6 (H12.ok mem0)
 ·intro wS sS
  refine Zg (Z01 ?_)
  exact Z04 rfl
 refine Z0B ZK ?_
 refine Z02 ?_
 refine Zk [4, 5, 6] ?_
 refine Z0i ?_
 refine Z12 results236 (.cell rfl (Z0E H12 mem3 underlying270 rfl Z5j (.take (.take .nil))) (.tmp rfl (.tmp rfl .nil))) rfl ?_
 refine ⟨_, rfl, ?_⟩
 have H16 := St.del (.tail (.tail .head)) (St.del (.tail (.tail (.tail .head))) (St.front2 (St.front2 H12)))
 refine ⟨L', ?_, ?_, H16.transS⟩
 ·rw [show (entS q).2.2 = 0 from by unfold entS; rw [if_neg ZO]; split <;> rfl]
  all_goals rfl
 unfold CacQ
 rw [if_pos hgood]
 exact ⟨p, _, hC⟩
theorem BuiltC (b : Nat) (L : Cac) (hL : L.length = 41) (s : Int) (w : World) (hb : (As.blk b 107 (cacC L)).ok w) (hm : (As.many (inR L)).ok w) :
  Z0f P 27 [.pointer (some ⟨b, 0, none⟩), .int .i64 s] w fun r w' => r = .int .i64 (if (0 ≤ s ∧ s < 41) ∧ hasP L s.toNat = true then 1 else 0) ∧ w = w' := by
 refine Z0o func27 rfl ntmps27 rfl ?_
 refine Z03 (Z00 (Zg (Z01 (Z02 ?_))))
 refine Zk [0, 1] ?_
 refine Z03 (Z03 (Z00 (Zm ?_)))
 refine Z13 rfl rfl func62 rfl rfl (.cons rfl .nil) (hasC s _) ?_
 first | refine Z38 rfl rfl rfl ?_ | refine Z3v rfl rfl rfl ?_
 refine Z01 (Z02 ?_)
 refine Zk [0, 1, 7] ?_
 (first | refine Z0c rfl ?_ ?_ | refine Z08 rfl ?_ ?_) <;> intro hc0
 ·refine Z03 (Z00 (Zg (Z01 (Z02 ?_))))
  refine Zk [4] ?_
  refine Z0i ?_
  refine Z07 ?_
  refine Z0e results27 rfl ?_
  refine ⟨_, rfl, ?_⟩
  exact ⟨by rw [if_neg (fun h => by simp [h.1] at hc0)], rfl⟩
 have hin : 0 ≤ s ∧ s < 41 := by simpa using hc0
 obtain ⟨x, hx⟩ : ∃ x, L[s.toNat]? = some x := ⟨L[s.toNat]'ZO, List.getElem?_eq_getElem ZO⟩
 have hc3 : (cacC L)[s.toNat * 5 + 3]? = some (.int .i64 (if x.isSome = true then 1 else 0)) := by
  rw [Z5z hx 3 ZO]
  cases x <;> rfl
 have hhp := hasP_at hx
 refine Z0a (Z02 ?_)
 refine Zk [0, 1] ?_
 refine Z03 (Z00 (Zm (Zm (Z0b rfl rfl rfl (Z09 fo107_0 rfl rfl rfl ?_)))))
 refine Z0j (s := 9) (v' := .int .i64 ((s.toNat : Nat) : Int)) rfl (congrArg (Value.int .i64) ZO) ?_
 refine Z5r (j := s.toNat) (n := 5) rfl rfl underlying105 tz104 rfl rfl rfl ZO ?_
 refine Z09 fo104_1 rfl rfl rfl ?_
 refine Z13 rfl rfl func63 rfl rfl (.cons rfl .nil) (syLoadIR hb hc3) ?_
 refine Zg (Z01 (Z02 ?_))
 refine Zk [4] ?_
 refine Z0i ?_
 refine Z0e results27 rfl ?_
 refine ⟨_, rfl, ?_⟩
 refine ⟨congrArg (Value.int .i64) ?_, rfl⟩
 rw [hhp]
 cases x
 ·rw [if_neg (by simp), if_neg (by simp)]
 rw [if_pos (by simp), if_pos (by simp [hin])]
def Z63 (L : Cac) : Nat → Int
 | 0 => 0
 | k + 1 => Z63 L k + (if hasP L k = true then (Z0M (k : Int)).2.1 else 0)
theorem first_len (k : Nat) (hk : k < 41) : ((entR (k : Int)).length : Int) = (Z0M (k : Int)).2.1 ∧ 0 ≤ (Z0M (k : Int)).2.1 ∧ (Z0M (k : Int)).2.1 ≤ 16 := by
 have hf : (Z0M (k : Int)).2.1 = if (k : Int) = 40 then 11 else 16 := by unfold Z0M; rw [if_neg ZO]
 rw [entR_len, hf]
 split <;> omega
theorem heldN_bd (L : Cac) : ∀ k, k ≤ 41 → 0 ≤ Z63 L k ∧ Z63 L k ≤ 16 * k
 | 0, _ => by simp [Z63]
 | k + 1, h => by
  have ih := heldN_bd L k ZO
  have hf := first_len k ZO
  unfold Z63
  split <;> omega
inductive CacL (L : Cac) : List Int → Cac → Prop
 | nil : CacL L [] L
 | snoc {l : List Int} {L' L'' : Cac} {q : Int} (h : CacL L l L') (k : CacQ L' q L'') : CacL L (l ++ [q]) L''
def inQ (q : Int) : Prop := -342 ≤ q ∧ q ≤ 308
instance (q : Int) : Decidable (inQ q) := by unfold inQ; infer_instance
theorem CacQ.len {L L' : Cac} {q : Int} (h : CacQ L q L') : L'.length = L.length := by
 unfold CacQ at h
 split at h
 ·obtain ⟨p, v, h⟩ := h
  exact h.len
 rw [h]
theorem CacQ.has {L L' : Cac} {q : Int} (h : CacQ L q L') (t : Nat) : hasP L' t = (decide (inQ q ∧ t = ((q + 342) / 16).toNat) || hasP L t) := by
 unfold CacQ at h
 split at h
 ·rename_i hq
  obtain ⟨p, v, h⟩ := h
  rw [h.has, show decide (inQ q ∧ t = ((q + 342) / 16).toNat) = decide (t = ((q + 342) / 16).toNat) from decide_eq_decide.2 ⟨fun h => h.2, fun h => ⟨hq, h⟩⟩]
 rename_i hq
 rw [h, decide_eq_false (fun h => hq h.1), Bool.false_or]
theorem CacL.len {L L' : Cac} {l : List Int} (h : CacL L l L') : L'.length = L.length := by
 induction h with
 | nil => rfl
 | snoc h k ih => rw [k.len, ih]
theorem CacL.has {L L' : Cac} {l : List Int} (h : CacL L l L') (t : Nat) : hasP L' t = (decide (∃ q ∈ l, inQ q ∧ t = ((q + 342) / 16).toNat) || hasP L t) := by
 induction h with
 | nil => simp
 | @snoc l L' L'' q h k ih =>
  rw [k.has, ih, ← Bool.or_assoc, ← Bool.decide_or]
  congr 1
  refine decide_eq_decide.2 ⟨fun h => ?_, fun ⟨x, hx, h⟩ => ?_⟩
  ·rcases h with h | ⟨x, hx, h⟩
   ·exact ⟨q, by simp, h⟩
   exact ⟨x, by simp [hx], h⟩
  rcases List.mem_append.1 hx with h1 | h1
  ·exact .inr ⟨x, h1, h⟩
  rw [List.mem_singleton.1 h1] at h
  exact .inl h
theorem HeldC (b : Nat) (L : Cac) (hL : L.length = 41) (w : World) (hb : (As.blk b 107 (cacC L)).ok w) (hm : (As.many (inR L)).ok w) :
  Z0f P 28 [.pointer (some ⟨b, 0, none⟩)] w fun r w' => r = .int .i64 (Z63 L 41) ∧ w = w' := by
 refine Z0o func28 rfl ntmps28 rfl ?_
 refine Z03 (Z00 (Zg (Z01 (Z02 ?_))))
 refine Zk [0] ?_
 refine Z03 (Z00 (Zg (Z01 (Z02 (Z03 (Z03 (Z00 (Zm (Z01 (Z02 (Z0d ?_)))))))))))
 refine Z0z (ι := Nat) (fun (k : Nat) => 41 - k) (fun (k : Nat) (w' : World) => w = w' ∧ k ≤ 41) (fun (k : Nat) => [(3, .int .i64 (Z63 L k)), (6, .int .i64 (k : Int))]) [0] (0) ?_ (.cons rfl .nil) ?_ ?_
 ·exact ⟨rfl, ZO⟩
 ·exact (.cons rfl ZN (.cons rfl ZN .nil))
 rintro k _ ⟨rfl, hk⟩
 show RunC P _ _ _ (_ :: _) _
 refine Z03 (Z00 ?_)
 refine Zl ?_
 refine Z01 (Z02 (Z03 ?_))
 (first | refine Z0c rfl ?_ ?_ | refine Z08 rfl ?_ ?_) <;> intro hc0
 ·refine Z0a (Z02 ?_)
  refine Zk [0, 3, 6] ?_
  refine Z03 (Z0d (Z03 (Z00 ?_)))
  have hk41 : k < 41 := by omega
  obtain ⟨x, hx⟩ : ∃ x, L[k]? = some x := ⟨L[k]'ZO, List.getElem?_eq_getElem ZO⟩
  have hhp := hasP_at hx
  have hbn := heldN_bd L k ZO
  have hfl := first_len k hk41
  refine Zm (Zg (Z01 (Z02 ?_)))
  refine Zk [0, 3, 4, 6] ?_
  refine Z03 (Z00 (Zm (Zm (Z0b rfl rfl rfl (Z09 fo107_0 rfl rfl rfl ?_)))))
  refine Z5r (j := k) (n := 5) rfl rfl underlying105 tz104 rfl rfl rfl ZO ?_
  refine Z09 fo104_2 rfl rfl rfl ?_
  refine Z13 rfl rfl func64 rfl rfl (.cons rfl .nil) (cacLd hb hm hx) ?_
  refine Zg (Z01 (Z02 ?_))
  refine Zk [0, 3, 5, 6] ?_
  refine Z03 (Z00 (Zm ?_))
  refine l_neqp ZK rfl rfl rfl rfl ?_
  refine Z01 (Z02 ?_)
  refine Zk [0, 3, 5, 6, 17] ?_
  (first | refine Z0c rfl ?_ ?_ | refine Z08 rfl ?_ ?_) <;> intro hc1
  ·obtain ⟨y, rfl⟩ : ∃ y, x = some y := by
    cases x
    ·simp [pcP] at hc1
    exact ⟨_, rfl⟩
   have hik := cac_ik hm hx
   refine Z00 (Zm (Zm (Z0b rfl rfl rfl ?_)))
   refine Z05 (Z0r hik.1) mem0 rfl rfl underlying126 rfl rfl rfl ?_
   have hik2 := hik.2
   refine Z1B rfl rfl underlying126 rfl (by first | assumption) ?_
   refine Z0y rfl rfl rfl rfl (Z0l ZO) ?_
   refine Zg (Z01 ?_)
   refine Z0F ?_
   refine Z02 ?_
   refine Zk [0, 3, 6] ?_
   refine Z00 ?_
   refine Z0y rfl rfl rfl rfl (Z0l ZO) ?_
   refine Zm (Z01 ?_)
   have hsn : Z63 L (k + 1) = Z63 L k + (Z0M (k : Int)).2.1 := by
    show Z63 L k + _ = _
    rw [if_pos (by rw [hhp]; rfl)]
   refine Z0p (i := (k)) (k + 1) ?_ ?_ (.cons rfl .nil) ?_
   ·first | omega | (simp; omega)
   ·exact ⟨rfl, ZO⟩
   exact (.cons rfl (by (refine congrArg (Value.int .i64) ?_; rw [hsn]; omega)) (.cons rfl ZN .nil))
  refine Z0a ?_
  refine Z0F ?_
  refine Z02 ?_
  refine Zk [0, 3, 6] ?_
  refine Z00 ?_
  refine Z0y rfl rfl rfl rfl (Z0l ZO) ?_
  refine Zm (Z01 ?_)
  have hsn : Z63 L (k + 1) = Z63 L k := by
   show Z63 L k + _ = _
   rw [if_neg (by rw [hhp]; cases x <;> simp [pcP] at hc1 ⊢)]
   omega
  refine Z0p (i := (k)) (k + 1) ?_ ?_ (.cons rfl .nil) ?_
  ·first | omega | (simp; omega)
  ·exact ⟨rfl, ZO⟩
  exact (.cons rfl (by rw [hsn]) (.cons rfl ZN .nil))
 refine Z0H ?_
 refine Z06 ?_
 refine Z06 ?_
 refine Z0h ?_
 refine Z02 ?_
 refine Zk [3] ?_
 refine Z03 (Z00 (Zm (Zg (Z01 (Z02 ?_)))))
 refine Zk [2] ?_
 refine Z0i ?_
 refine Z0e results28 rfl ?_
 refine ⟨_, rfl, ?_⟩
 obtain rfl : k = 41 := by omega
 exact ⟨rfl, rfl⟩
theorem tmod_bd {a w : Int} (h : 0 < w) : -w < a.tmod w ∧ a.tmod w < w := by
 by_cases h0 : 0 ≤ a
 ·rw [Int.tmod_eq_emod_of_nonneg h0]
  have := Int.emod_nonneg a (show w ≠ 0 by omega)
  have := Int.emod_lt_of_pos a h
  omega
 have e := Int.neg_tmod (a := a) (b := w)
 rw [Int.tmod_eq_emod_of_nonneg (show 0 ≤ -a by omega)] at e
 have := Int.emod_nonneg (-a) (show w ≠ 0 by omega)
 have := Int.emod_lt_of_pos (-a) h
 omega
def witF (n lo hi : Int) : Int := if n.tmod (hi - lo + 1) < 0 then lo + (n.tmod (hi - lo + 1) + (hi - lo + 1)) else lo + n.tmod (hi - lo + 1)
theorem witF_bd {n lo hi : Int} (h : lo ≤ hi) : lo ≤ witF n lo hi ∧ witF n lo hi ≤ hi := by
 have := tmod_bd (a := n) (w := hi - lo + 1) ZO
 unfold witF
 split <;> omega
theorem ints_snoc (k : IntKind) (l : List Int) (x : Int) : ints k (l ++ [x]) = ints k l ++ [.int k x] := by simp [ints]
theorem Z7a {w0 w : World} {B : Nat} {M : Nat → Prop} {σ τ : List As} (hw : St w0 B M (τ ++ σ) w) {A : As} (hA : A ∈ σ) {R : World → Prop} (h : ∀ w1, A.ok w1 → R w1) : ∀ w1 : World, (∀ k, k < w.heap.size → ¬ fps τ k → w1.heap[k]? = w.heap[k]?) → R w1 := fun w1 h1 =>
 h w1 (A.loc w w1 (fun k hk => h1 k (hw.sep.lt (List.mem_append_right _ hA) k hk).2 fun ⟨X, hX, hk'⟩ => hw.sep.cross X hX A hA k hk' hk) (hw.sep.ok (List.mem_append_right _ hA)))
theorem withinW (n lo hi : Int) (hn : -9223372036854775808 ≤ n ∧ n ≤ 9223372036854775807) (hlo : lo ≤ hi ∧ hi ≤ 1000000 ∧ -1000000 ≤ lo) (w : World) :
  Z0f P 29 [.int .i64 n, .int .i64 lo, .int .i64 hi] w fun r w' => r = .int .i64 (witF n lo hi) ∧ w = w' := by
 refine Z0o func29 rfl ntmps29 rfl ?_
 have htm := tmod_bd (a := n) (w := hi - lo + 1) ZO
 refine Z03 (Z00 (Zg (Z01 (Z02 ?_))))
 refine Zk [0, 1, 2] ?_
 refine Z03 (Z00 (Zm (Zm ?_)))
 refine Z0W rfl rfl rfl rfl (Z0l ZO) ?_
 refine Z0y rfl rfl rfl rfl (Z0l ZO) ?_
 refine Zg (Z01 (Z02 ?_))
 refine Zk [0, 1, 7] ?_
 refine Z03 (Z00 (Zm (Zm ?_)))
 refine Z2e rfl rfl rfl rfl ZO (rfl) ?_
 refine Zg (Z01 (Z02 ?_))
 refine Zk [0, 1, 7] ?_
 refine Z03 (Z03 (Z00 (Zm ?_)))
 refine Zl ?_
 refine Z01 (Z02 ?_)
 refine Zk [0, 1, 7, 16] ?_
 (first | refine Z0c rfl ?_ ?_ | refine Z08 rfl ?_ ?_) <;> intro hc0
 ·refine Z00 (Zm (Zm ?_))
  refine Z0y rfl rfl rfl rfl (Z0l ZO) ?_
  refine Zg (Z01 (Z02 ?_))
  refine Zk [0, 1] ?_
  refine Z03 (Z00 (Zm (Zm ?_)))
  refine Z0y rfl rfl rfl rfl (Z0l ZO) ?_
  refine Zg (Z01 (Z02 ?_))
  refine Zk [6] ?_
  refine Z0i ?_
  refine Z0e results29 rfl ?_
  refine ⟨_, rfl, ?_⟩
  exact ⟨congrArg (Value.int .i64) (by unfold witF; rw [if_pos hc0]), rfl⟩
 refine Z0a (Z02 ?_)
 refine Zk [0, 1] ?_
 refine Z03 (Z00 (Zm (Zm ?_)))
 refine Z0y rfl rfl rfl rfl (Z0l ZO) ?_
 refine Zg (Z01 (Z02 ?_))
 refine Zk [6] ?_
 refine Z0i ?_
 refine Z0e results29 rfl ?_
 refine ⟨_, rfl, ?_⟩
 exact ⟨congrArg (Value.int .i64) (by unfold witF; rw [if_neg hc0]), rfl⟩
end Go.Proofs.YtgjgahmhoflgcaaGreatDoor.W
