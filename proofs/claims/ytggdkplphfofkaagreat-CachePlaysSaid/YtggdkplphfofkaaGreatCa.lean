/- locks and atomic numbers of Go's library -/
import Derived.ChangeAlike
import Derived.RegionCalls
import Derived.RegionTactic
import Derived.Laws.LoneSync
import Derived.Laws.Pointers
import Derived.Defers
import Derived.Tactics2
import Derived.Tactics
import Derived.Test.YtggdkplphfofkaaGreatVx
set_option linter.unusedVariables false
set_option linter.unusedSimpArgs false
set_option maxRecDepth 10000
namespace Go.Proofs.YtggdkplphfofkaaGreat.W
open Go.Vc Go.RowKit
theorem syDis (w : World) : (callFunc 90 #[]).run Tryz.prog w = .ok (.value (.tuple #[])) w := run_call_mark0 Tryz.func90 (by kernel_rfl) (by kernel_rfl) (by kernel_rfl) .disable (by kernel_rfl) w
theorem syEna (w : World) : (callFunc 92 #[]).run Tryz.prog w = .ok (.value (.tuple #[])) w := run_call_mark0 Tryz.func92 (by kernel_rfl) (by kernel_rfl) (by kernel_rfl) .enable (by kernel_rfl) w
theorem syAcq (a : Addr) (w : World) : (callFunc 93 #[.pointer (some a)]).run Tryz.prog w = .ok (.value (.tuple #[])) w := run_call_marked Tryz.func93 (by kernel_rfl) (by kernel_rfl) (by kernel_rfl) .acquire (by kernel_rfl) a w
theorem syRel (a : Addr) (w : World) : (callFunc 95 #[.pointer (some a)]).run Tryz.prog w = .ok (.value (.tuple #[])) w := run_call_marked Tryz.func95 (by kernel_rfl) (by kernel_rfl) (by kernel_rfl) .releaseMerge (by kernel_rfl) a w
theorem syStoreD (a : Addr) (x : Value) (u : FrameMode) (w : World) (hc : w.cell? a = some x) (hz : w.frozen? a = false) :
  CallsD Tryz.prog 62 #[.pointer (some a), .bool true] u w fun e u' w' => u' = u ∧ (e = .returned (.tuple #[]) ∧ w' = w.drew.setCell a (.int .u32 1)) := by
 have hc' : w.drew.cell? a = some x := by go_simp
 have hz' : w.drew.frozen? a = false := by go_simp
 have hst := run_call_store (P := Tryz.prog) Tryz.func74 (by kernel_rfl) (by kernel_rfl) (by kernel_rfl) (by kernel_rfl) (k := .u32) (y := 1) hc' hz'
 go_enter_d Tryz.func62, Tryz.ntmps62
 go_wp2
 go_region_calls
 all_goals (go_end0; exact ⟨rfl, rfl⟩)
theorem syUnlockD (a : Addr) (u : FrameMode) (w : World) (hc : w.cell? a = some (.int .i32 1)) (hz : w.frozen? a = false) :
  CallsD Tryz.prog 61 #[.pointer (some a)] u w fun e u' w' => u' = u ∧ (e = .returned (.tuple #[]) ∧ w' = w.setCell a (.int .i32 0)) := by
 have hd := syDis
 have he := syEna
 have hr := syRel
 have hadd := run_call_add (P := Tryz.prog) Tryz.func96 (by kernel_rfl) (by kernel_rfl) (by kernel_rfl) .i32 (by kernel_rfl) (y := -1) (s := 0) hc hz (by simp [go_sem]; rfl)
 have hcv := run_convert_to_unsafe (P := Tryz.prog) (src := 155) (dst := 57) Tryz.underlying155 Tryz.underlying57 (by kernel_rfl) hc
 go_enter_d Tryz.func61, Tryz.ntmps61
 go_wp2
 go_end0
 go_wp2
 go_end0
 exact ⟨rfl, rfl⟩
theorem syLock (a : Addr) (w : World) (hc : w.cell? a = some (.int .i32 0)) (hz : w.frozen? a = false) :
  Calls Tryz.prog 60 #[.pointer (some a)] w fun e w' => e = .returned (.tuple #[]) ∧ w' = w.setCell a (.int .i32 1) := by
 have hd := syDis
 have he := syEna
 have ha := syAcq
 have hcas := run_call_cas_hit (P := Tryz.prog) Tryz.func91 (by kernel_rfl) (by kernel_rfl) (by kernel_rfl) .i32 (by kernel_rfl) (y := 1) hc hz
 have hc' : (w.setCell a (.int .i32 1)).cell? a = some (.int .i32 1) := World.cell?_setCell_same w a _ hc
 have hcv := run_convert_to_unsafe (P := Tryz.prog) (src := 155) (dst := 57) Tryz.underlying155 Tryz.underlying57 (by kernel_rfl) hc'
 go_enter Tryz.func60, Tryz.ntmps60
 go_wp2
 first | go_end0 | (simp only [Exit.inBlock, Exit.then]; refine bodyPost_ret (results_none rfl _ _ _) rfl ?_) | refine bodyPost_ret (results_none rfl _ _ _) rfl ?_
 go_wp2
 go_end0
 exact ⟨rfl, rfl⟩
theorem syLoadB (a : Addr) (d : Int) (w : World) (h0 : w.cell? a = some (.int .u32 d)) : Calls Tryz.prog 45 #[.pointer (some a)] w fun e w' => e = .returned (.bool (d != 0)) ∧ w' = w := by
 have hl := run_call_load (P := Tryz.prog) Tryz.func59 (by kernel_rfl) (by kernel_rfl) (by kernel_rfl) .u32 (by kernel_rfl) h0
 go_enter Tryz.func45, Tryz.ntmps45
 go_wp2
 go_ret
 exact ⟨rfl, rfl⟩
set_option maxRecDepth 100000 in
set_option maxHeartbeats 1600000 in
/-- the slow road of Once.Do: the lock free, not yet done: whatever the function does with the lock taken, between it -/
theorem sySlow (b off : Nat) (caps : Array Value) (Q : World → Prop) (w : World)
  (h0 : w.cell? ⟨b, off, none⟩ = some (.int .u32 0)) (h1 : w.cell? ⟨b, off + 1, none⟩ = some (.int .i32 0)) (f1 : w.frozen? ⟨b, off + 1, none⟩ = false)
  (hclo : Calls Tryz.prog 32 caps (w.setCell ⟨b, off + 1, none⟩ (.int .i32 1)) fun e w2 => e = .returned (.tuple #[]) ∧ Q w2)
  (hq : ∀ w2, Q w2 → w2.cell? ⟨b, off, none⟩ = some (.int .u32 0) ∧ w2.cell? ⟨b, off + 1, none⟩ = some (.int .i32 1) ∧ w2.frozen? ⟨b, off, none⟩ = false ∧ w2.frozen? ⟨b, off + 1, none⟩ = false) :
  Calls Tryz.prog 46 #[.pointer (some ⟨b, off, none⟩), .func (.func 32) #[] caps] w fun e w' => e = .returned (.tuple #[]) ∧ ∃ w2, Q w2 ∧ w' = (w2.drew.setCell ⟨b, off, none⟩ (.int .u32 1)).setCell ⟨b, off + 1, none⟩ (.int .i32 0) := by
 have hc0 : (w.setCell ⟨b, off + 1, none⟩ (.int .i32 1)).cell? ⟨b, off, none⟩ = some (.int .u32 0) := (World.cell?_setCell_other _ ⟨b, off + 1, none⟩ ⟨b, off, none⟩ _ (by simp)).trans h0
 have hnot : ∀ (x : Bool) (w : World), (Op.unary .not (.bool x)).run Tryz.prog w = .ok (.bool (!x)) w := fun _ _ => rfl
 go_enter_defers Tryz.func46, Tryz.ntmps46
 go_wp2_with (first | (go_at_call 60; refine (syLock ⟨b, off + 1, none⟩ _ (by go_simp) (by go_simp)).mono ?_; rintro e w' ⟨rfl, rfl⟩) | (go_at_call 45; refine (syLoadB ⟨b, off, none⟩ 0 _ hc0).mono ?_; rintro e w' ⟨rfl, rfl⟩) | (go_at_call 32; refine hclo.mono ?_; rintro e w2 ⟨rfl, hQ⟩))
 obtain ⟨q0, q1, z0, z1⟩ := hq _ hQ
 refine leaves_cons (f := 62) (args := #[.pointer (some ⟨b, off, none⟩), .bool true]) (by simp) (by simp [go_sem]) ?_
 refine (syStoreD ⟨b, off, none⟩ (.int .u32 0) .returning _ q0 z0).mono ?_
 rintro e u' w'' ⟨rfl, rfl, rfl⟩
 refine leaves_cons (f := 61) (args := #[.pointer (some ⟨b, off + 1, none⟩)]) (by simp [settle]) (by simp [go_sem]) ?_
 refine (syUnlockD ⟨b, off + 1, none⟩ _ _ ?_ (by simp [z1])).mono ?_
 ·refine (World.cell?_setCell_other _ ⟨b, off, none⟩ ⟨b, off + 1, none⟩ _ (by simp)).trans ?_
  rw [World.cell?_drew]
  exact q1
 rintro e u' w'' ⟨rfl, rfl, rfl⟩
 refine ⟨.tuple #[], by simp [results, Tryz.results46], rfl, w2, hQ, rfl⟩
set_option maxRecDepth 100000 in
set_option maxHeartbeats 1600000 in
/-- Once.Do, for the first time -/
theorem syDo1 (b off : Nat) (caps : Array Value) (Q : World → Prop) (w : World)
  (h0 : w.cell? ⟨b, off, none⟩ = some (.int .u32 0)) (h1 : w.cell? ⟨b, off + 1, none⟩ = some (.int .i32 0)) (f1 : w.frozen? ⟨b, off + 1, none⟩ = false)
  (hclo : Calls Tryz.prog 32 caps (w.setCell ⟨b, off + 1, none⟩ (.int .i32 1)) fun e w2 => e = .returned (.tuple #[]) ∧ Q w2)
  (hq : ∀ w2, Q w2 → w2.cell? ⟨b, off, none⟩ = some (.int .u32 0) ∧ w2.cell? ⟨b, off + 1, none⟩ = some (.int .i32 1) ∧ w2.frozen? ⟨b, off, none⟩ = false ∧ w2.frozen? ⟨b, off + 1, none⟩ = false) :
  Calls Tryz.prog 31 #[.pointer (some ⟨b, off, none⟩), .func (.func 32) #[] caps] w fun e w' => e = .returned (.tuple #[]) ∧ ∃ w2, Q w2 ∧ w' = (w2.drew.setCell ⟨b, off, none⟩ (.int .u32 1)).setCell ⟨b, off + 1, none⟩ (.int .i32 0) := by
 have hnot : ∀ (x : Bool) (w : World), (Op.unary .not (.bool x)).run Tryz.prog w = .ok (.bool (!x)) w := fun _ _ => rfl
 go_enter Tryz.func31, Tryz.ntmps31
 go_wp2_with (first | (go_at_call 45; refine (syLoadB ⟨b, off, none⟩ 0 _ h0).mono ?_; rintro e w' ⟨rfl, rfl⟩) | (go_at_call 46; refine (sySlow b off caps Q _ h0 h1 f1 hclo hq).mono ?_; rintro e w' ⟨rfl, w2, hQ, rfl⟩))
 go_end0
 exact ⟨rfl, w2, hQ, rfl⟩
theorem syDo2 (a : Addr) (fv : Value) (w : World) (h0 : w.cell? a = some (.int .u32 1)) :
  Calls Tryz.prog 31 #[.pointer (some a), fv] w fun e w' => e = .returned (.tuple #[]) ∧ w' = w := by
 have hnot : ∀ (x : Bool) (w : World), (Op.unary .not (.bool x)).run Tryz.prog w = .ok (.bool (!x)) w := fun _ _ => rfl
 go_enter Tryz.func31, Tryz.ntmps31
 go_wp2_with (go_at_call 45; refine (syLoadB a 1 _ h0).mono ?_; rintro e w' ⟨rfl, rfl⟩)
 go_end0
 exact ⟨rfl, rfl⟩
theorem syLoadI (a : Addr) (x : Int) (w : World) (h0 : w.cell? a = some (.int .i64 x)) : Calls Tryz.prog 21 #[.pointer (some a)] w fun e w' => e = .returned (.int .i64 x) ∧ w' = w := by
 have hl := run_call_load (P := Tryz.prog) Tryz.func29 (by kernel_rfl) (by kernel_rfl) (by kernel_rfl) .i64 (by kernel_rfl) h0
 go_enter Tryz.func21, Tryz.ntmps21
 go_wp2
 go_ret
 exact ⟨rfl, rfl⟩
theorem syAddI (a : Addr) (x : Int) (w : World) (hx : 0 ≤ x ∧ x ≤ 1000000) (h0 : w.cell? a = some (.int .i64 x)) (hz : w.frozen? a = false) : Calls Tryz.prog 33 #[.pointer (some a), .int .i64 1] w fun e w' => e = .returned (.int .i64 (x + 1)) ∧ w' = w.setCell a (.int .i64 (x + 1)) := by
 have hadd := run_call_add (P := Tryz.prog) Tryz.func47 (by kernel_rfl) (by kernel_rfl) (by kernel_rfl) .i64 (by kernel_rfl) (y := 1) (s := x + 1) h0 hz (by
  have e : IntKind.i64.wrap (x + 1) = x + 1 := w_i64 (by omega)
  simp [Op.intArith, e])
 go_enter Tryz.func33, Tryz.ntmps33
 go_wp2
 go_ret
 exact ⟨rfl, rfl⟩
theorem run_load_ptr {f : FuncId} {fn : Func} {Pg : Program} (hf : Pg.funcs[f]? = some fn) (hname : (fn.name == "runtime.NumGoroutine") = false) (hb : fn.body.isNone = true) (hn : Extern.findNext fn = none)
  (he : Extern.find fn = some (Extern.Atomic.loadT .ptr)) {a : Addr} {x : Option Addr} {w : World} (hc : w.cell? a = some (.pointer x)) :
  (callFunc f #[.pointer (some a)]).run Pg w = .ok (.value (.pointer x)) w := by
 rw [run_callFunc_extern hf hname hb hn he]
 change (Sem.run Pg (do Extern.Atomic.read .ptr (← asAddr (.pointer (some a)))) w).andThen _ = _
 simp [Extern.Atomic.read, asAddr, hc, Result.andThen]
theorem run_store_ptr {f : FuncId} {fn : Func} {Pg : Program} (hf : Pg.funcs[f]? = some fn) (hname : (fn.name == "runtime.NumGoroutine") = false) (hb : fn.body.isNone = true) (hn : Extern.findNext fn = none)
  (he : Extern.find fn = some Extern.Atomic.storeT) {a : Addr} {y : Option Addr} {u : Value} {w : World} (hc : w.cell? a = some u) (hz : w.frozen? a = false) :
  (callFunc f #[.pointer (some a), .pointer y]).run Pg w = .ok (.value (.tuple #[])) (w.setCell a (.pointer y)) := by
 rw [run_callFunc_extern hf hname hb hn he]
 change (Sem.run Pg (do
  store (← asAddr (.pointer (some a))) (.pointer y) .atomic
  pure Extern.Atomic.none_) w).andThen _ = _
 simp [asAddr, hc, hz, run_store Pg w a (.pointer y) .atomic rfl, Result.andThen, Extern.Atomic.none_]
theorem cvFrom {pb : Nat} {v : Value} {w : World} (hb : w.heap[pb]? = some (.cells #[v] 81 (0, 0))) : (convert 57 55 (.pointer (some ⟨pb, 0, none⟩))).run Tryz.prog w = .ok (.pointer (some ⟨pb, 0, none⟩)) w := by
 have hsh : w.shape? pb = some (81, 1) := by simp [World.shape?, hb]
 have hl : liesAt Tryz.prog Tryz.prog.depth 81 (1 / Tryz.prog.cellsOf 81) 0 81 1 = true := by kernel_rfl
 obtain ⟨i, hi, hsz⟩ : ∃ i, Tryz.prog.info? 81 = some i ∧ i.size ≠ 0 := by
  have h : (Tryz.prog.info? 81).map (fun i => decide (i.size = 0)) = some false := by kernel_rfl
  obtain ⟨i, hi, h2⟩ := Option.map_eq_some_iff.1 h
  exact ⟨i, hi, by simpa using h2⟩
 simp [convert, Conv.unsafePointer, Conv.seenAt, viewAt, variablesAt, sizeOf, typeInfo, run_underlying Tryz.underlying57, run_underlying Tryz.underlying55, hi, hsz, hsh, hl, Result.andThen]
theorem cvNil {w : World} : (convert 57 55 (.pointer none)).run Tryz.prog w = .ok (.pointer none) w := by
 simp [convert, Conv.unsafePointer, run_underlying Tryz.underlying57, run_underlying Tryz.underlying55, Result.andThen]
theorem syLoadP0 (a : Addr) (w : World) (h0 : w.cell? a = some (.pointer none)) : Calls Tryz.prog 22 #[.pointer (some a)] w fun e w' => e = .returned (.pointer none) ∧ w' = w := by
 have hl := run_load_ptr (Pg := Tryz.prog) Tryz.func30 (by kernel_rfl) (by kernel_rfl) (by kernel_rfl) (by kernel_rfl) h0
 have hcv := cvNil (w := w)
 go_enter Tryz.func22, Tryz.ntmps22
 go_wp2
 go_ret
 exact ⟨rfl, rfl⟩
theorem syLoadP (a : Addr) (pb : Nat) (v : Value) (w : World) (h0 : w.cell? a = some (.pointer (some ⟨pb, 0, none⟩))) (hb : w.heap[pb]? = some (.cells #[v] 81 (0, 0))) : Calls Tryz.prog 22 #[.pointer (some a)] w fun e w' => e = .returned (.pointer (some ⟨pb, 0, none⟩)) ∧ w' = w := by
 have hl := run_load_ptr (Pg := Tryz.prog) Tryz.func30 (by kernel_rfl) (by kernel_rfl) (by kernel_rfl) (by kernel_rfl) h0
 have hcv := cvFrom hb
 go_enter Tryz.func22, Tryz.ntmps22
 go_wp2
 go_ret
 exact ⟨rfl, rfl⟩
theorem syStoreP (a : Addr) (pb : Nat) (v u : Value) (w : World) (h0 : w.cell? a = some u) (hz : w.frozen? a = false) (hb : w.heap[pb]? = some (.cells #[v] 81 (0, 0))) : Calls Tryz.prog 37 #[.pointer (some a), .pointer (some ⟨pb, 0, none⟩)] w fun e w' => e = .returned (.tuple #[]) ∧ w' = w.setCell a (.pointer (some ⟨pb, 0, none⟩)) := by
 have hst := run_store_ptr (Pg := Tryz.prog) Tryz.func51 (by kernel_rfl) (by kernel_rfl) (by kernel_rfl) (by kernel_rfl) (y := some ⟨pb, 0, none⟩) h0 hz
 have hcv := run_convert_to_unsafe (P := Tryz.prog) (src := 55) (dst := 57) Tryz.underlying55 Tryz.underlying57 (by kernel_rfl) (a := ⟨pb, 0, none⟩) (v := v) (w := w) (by rw [cell_of_row w pb 0 #[v] 81 (0, 0) hb]; rfl)
 go_enter Tryz.func37, Tryz.ntmps37
 go_wp2
 go_end0
 exact ⟨rfl, rfl⟩
end Go.Proofs.YtggdkplphfofkaaGreat.W
