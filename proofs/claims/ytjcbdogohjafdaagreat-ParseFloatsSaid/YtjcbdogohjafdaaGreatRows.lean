/-
  No cell of these rows narrows 'for every input' (looked for: loops, veiled, ifaces, maps, wideKeys, modest, calm, conditions, laid).
  DERIVED. THE GIVEN ROWS OF THIS SEAT. 8 by the template 'for every input the law returns true; each argument reads behind the call as it read before'; 0 by the template 'total and deterministic' (their statements: YtjcbdogohjafdaaGreatTotals.lean).
  GIVEN WITH THE SEED: the statements are not yours to turn. If you find one false, say at which input.
  Laid BY PROGRAM, IN A SANDBOX (cutbox-rows.mjs): the forced cells as the released guide's own fill.sh prints them over the translation d40f8b770114c4aa… (all of the seat's roots in one cut). By AI agents, Wed Nov 11 2026. No macro, syntax, notation, axiom, sorry.
-/
import Derived.Test.YtjcbdogohjafdaaGreatChecked
import GoSem.Claim
import GoSem.ClaimJoined
import GoSem.ClaimMapViews
import Derived.JoinedTies
import Derived.KernelRfl
namespace Go.Proofs.YtjcbdogohjafdaaGreat
/- THE CELL 'sum', in the pinned program and in every row, IS THE sha256 OF THE DUMP (.gsa) THAT YtjcbdogohjafdaaGreatProg.lean LOADS. Nothing in Lean hashes anything: it is a label: what it is worth is what the hold of that sum in a sandbox is worth. -/
noncomputable def Tryz.pinned : Pinned := { name := "ytjcbdogohjafdaagreat", sum := "d40f8b770114c4aa7dc4b9c1c9d2469b49df3346ce6ff035f9f655ce3c697b4e", checked := Tryz.checked }
namespace Rows
def none {H : Type} : Left H := { results := [], args := [] }

/-- 'mintagelaw09.ParseFloats': WHATEVER THE INPUT: true; the input reads as it did. -/
def parseFloatsSpec : ChangeSpec := { name := "parseFloats", fn := fun _ => fun
  | [d1, d2] => { results := [.lit (.bool true)], args := [d1, d2] }
  | _ => none }
def parseFloatsRow : OpenClaim := { program := "ytjcbdogohjafdaagreat", sum := "d40f8b770114c4aa7dc4b9c1c9d2469b49df3346ce6ff035f9f655ce3c697b4e", func := "mintage/mintagelaw09.ParseFloats", spec := "parseFloats", inPlace := ["math.Float32bits", "math.Float64bits", "sync/atomic.AddInt64", "math/bits.Add64", "math/bits.Sub64", "sync/atomic.StorePointer", "sync/atomic.LoadUint32", "(*internal/sync.Mutex).Lock", "internal/race.Disable", "sync/atomic.CompareAndSwapInt32", "internal/race.Enable", "internal/race.Acquire", "(*internal/sync.Mutex).lockSlow", "internal/sync.runtime_canSpin", "internal/sync.runtime_doSpin", "internal/sync.throw", "internal/sync.runtime_nanotime", "internal/sync.runtime_SemacquireMutex", "sync/atomic.AddInt32", "(*internal/sync.Mutex).Unlock", "internal/race.ReleaseMerge", "(*internal/sync.Mutex).unlockSlow", "internal/sync.fatal", "internal/sync.runtime_Semrelease", "sync/atomic.StoreUint32", "sync/atomic.LoadPointer"], unfollowed := true, recurses := true, named := ["math/bits.divideError", "math/bits.overflowError"], apart := false }
def ParseFloatsSaid : Prop := parseFloatsRow.holds Tryz.pinned (OpenSpec.ofChange parseFloatsSpec)

/-- ITS FALSE NEIGHBOUR: 'it returns false'. Refute it at one input. -/
def parseFloatsWrong : ChangeSpec := { name := "parseFloats", fn := fun _ => fun
  | [d1, d2] => { results := [.lit (.bool false)], args := [d1, d2] }
  | _ => none }
def ParseFloatsWrongFalsely : Prop := parseFloatsRow.holds Tryz.pinned (OpenSpec.ofChange parseFloatsWrong)

/-- 'mintagelaw09.ParseTables': WHATEVER THE INPUT: true; the input reads as it did. -/
def parseTablesSpec : ChangeSpec := { name := "parseTables", fn := fun _ => fun
  | [d1, d2] => { results := [.lit (.bool true)], args := [d1, d2] }
  | _ => none }
def parseTablesRow : OpenClaim := { program := "ytjcbdogohjafdaagreat", sum := "d40f8b770114c4aa7dc4b9c1c9d2469b49df3346ce6ff035f9f655ce3c697b4e", func := "mintage/mintagelaw09.ParseTables", spec := "parseTables", inPlace := ["sync/atomic.AddInt64", "math/bits.Add64", "math/bits.Sub64", "sync/atomic.StorePointer", "sync/atomic.LoadUint32", "(*internal/sync.Mutex).Lock", "internal/race.Disable", "sync/atomic.CompareAndSwapInt32", "internal/race.Enable", "internal/race.Acquire", "(*internal/sync.Mutex).lockSlow", "internal/sync.runtime_canSpin", "internal/sync.runtime_doSpin", "internal/sync.throw", "internal/sync.runtime_nanotime", "internal/sync.runtime_SemacquireMutex", "sync/atomic.AddInt32", "(*internal/sync.Mutex).Unlock", "internal/race.ReleaseMerge", "(*internal/sync.Mutex).unlockSlow", "internal/sync.fatal", "internal/sync.runtime_Semrelease", "sync/atomic.StoreUint32", "sync/atomic.LoadPointer", "math.Float32bits", "math.Float64bits"], unfollowed := true, recurses := true, named := ["math/bits.divideError", "math/bits.overflowError"], apart := false }
def ParseTablesSaid : Prop := parseTablesRow.holds Tryz.pinned (OpenSpec.ofChange parseTablesSpec)

/-- ITS FALSE NEIGHBOUR: 'it returns false'. Refute it at one input. -/
def parseTablesWrong : ChangeSpec := { name := "parseTables", fn := fun _ => fun
  | [d1, d2] => { results := [.lit (.bool false)], args := [d1, d2] }
  | _ => none }
def ParseTablesWrongFalsely : Prop := parseTablesRow.holds Tryz.pinned (OpenSpec.ofChange parseTablesWrong)

/-- 'mintagelaw09.ParseKnown': WHATEVER THE INPUT: true; the input reads as it did. -/
def parseKnownSpec : ChangeSpec := { name := "parseKnown", fn := fun _ => fun
  | [] => { results := [.lit (.bool true)], args := [] }
  | _ => none }
def parseKnownRow : OpenClaim := { program := "ytjcbdogohjafdaagreat", sum := "d40f8b770114c4aa7dc4b9c1c9d2469b49df3346ce6ff035f9f655ce3c697b4e", func := "mintage/mintagelaw09.ParseKnown", spec := "parseKnown", inPlace := ["math.Float32bits", "math.Float64bits", "sync/atomic.AddInt64", "math/bits.Add64", "math/bits.Sub64", "sync/atomic.StorePointer", "sync/atomic.LoadUint32", "(*internal/sync.Mutex).Lock", "internal/race.Disable", "sync/atomic.CompareAndSwapInt32", "internal/race.Enable", "internal/race.Acquire", "(*internal/sync.Mutex).lockSlow", "internal/sync.runtime_canSpin", "internal/sync.runtime_doSpin", "internal/sync.throw", "internal/sync.runtime_nanotime", "internal/sync.runtime_SemacquireMutex", "sync/atomic.AddInt32", "(*internal/sync.Mutex).Unlock", "internal/race.ReleaseMerge", "(*internal/sync.Mutex).unlockSlow", "internal/sync.fatal", "internal/sync.runtime_Semrelease", "sync/atomic.StoreUint32", "sync/atomic.LoadPointer"], unfollowed := true, recurses := true, named := ["math/bits.divideError", "math/bits.overflowError"], apart := false }
def ParseKnownSaid : Prop := parseKnownRow.holds Tryz.pinned (OpenSpec.ofChange parseKnownSpec)

/-- ITS FALSE NEIGHBOUR: 'it returns false'. Refute it at one input. -/
def parseKnownWrong : ChangeSpec := { name := "parseKnown", fn := fun _ => fun
  | [] => { results := [.lit (.bool false)], args := [] }
  | _ => none }
def ParseKnownWrongFalsely : Prop := parseKnownRow.holds Tryz.pinned (OpenSpec.ofChange parseKnownWrong)

/-- 'mintagelaw09.ParseExacts': WHATEVER THE INPUT: true; the input reads as it did. -/
def parseExactsSpec : ChangeSpec := { name := "parseExacts", fn := fun _ => fun
  | [d1, d2] => { results := [.lit (.bool true)], args := [d1, d2] }
  | _ => none }
def parseExactsRow : OpenClaim := { program := "ytjcbdogohjafdaagreat", sum := "d40f8b770114c4aa7dc4b9c1c9d2469b49df3346ce6ff035f9f655ce3c697b4e", func := "mintage/mintagelaw09.ParseExacts", spec := "parseExacts", inPlace := ["math/bits.Add64", "math/bits.Sub64", "math.Float32bits", "math.Float64bits", "sync/atomic.AddInt64", "sync/atomic.StorePointer", "sync/atomic.LoadUint32", "(*internal/sync.Mutex).Lock", "internal/race.Disable", "sync/atomic.CompareAndSwapInt32", "internal/race.Enable", "internal/race.Acquire", "(*internal/sync.Mutex).lockSlow", "internal/sync.runtime_canSpin", "internal/sync.runtime_doSpin", "internal/sync.throw", "internal/sync.runtime_nanotime", "internal/sync.runtime_SemacquireMutex", "sync/atomic.AddInt32", "(*internal/sync.Mutex).Unlock", "internal/race.ReleaseMerge", "(*internal/sync.Mutex).unlockSlow", "internal/sync.fatal", "internal/sync.runtime_Semrelease", "sync/atomic.StoreUint32", "sync/atomic.LoadPointer"], unfollowed := true, recurses := true, named := ["math/bits.divideError", "math/bits.overflowError"], apart := false }
def ParseExactsSaid : Prop := parseExactsRow.holds Tryz.pinned (OpenSpec.ofChange parseExactsSpec)

/-- ITS FALSE NEIGHBOUR: 'it returns false'. Refute it at one input. -/
def parseExactsWrong : ChangeSpec := { name := "parseExacts", fn := fun _ => fun
  | [d1, d2] => { results := [.lit (.bool false)], args := [d1, d2] }
  | _ => none }
def ParseExactsWrongFalsely : Prop := parseExactsRow.holds Tryz.pinned (OpenSpec.ofChange parseExactsWrong)

/-- 'mintagelaw09.ParseAgree': WHATEVER THE INPUT: true; the input reads as it did. -/
def parseAgreeSpec : ChangeSpec := { name := "parseAgree", fn := fun _ => fun
  | [d1, d2] => { results := [.lit (.bool true)], args := [d1, d2] }
  | _ => none }
def parseAgreeRow : OpenClaim := { program := "ytjcbdogohjafdaagreat", sum := "d40f8b770114c4aa7dc4b9c1c9d2469b49df3346ce6ff035f9f655ce3c697b4e", func := "mintage/mintagelaw09.ParseAgree", spec := "parseAgree", inPlace := ["math.Float32bits", "math.Float64bits", "sync/atomic.AddInt64", "math/bits.Add64", "math/bits.Sub64", "sync/atomic.StorePointer", "sync/atomic.LoadUint32", "(*internal/sync.Mutex).Lock", "internal/race.Disable", "sync/atomic.CompareAndSwapInt32", "internal/race.Enable", "internal/race.Acquire", "(*internal/sync.Mutex).lockSlow", "internal/sync.runtime_canSpin", "internal/sync.runtime_doSpin", "internal/sync.throw", "internal/sync.runtime_nanotime", "internal/sync.runtime_SemacquireMutex", "sync/atomic.AddInt32", "(*internal/sync.Mutex).Unlock", "internal/race.ReleaseMerge", "(*internal/sync.Mutex).unlockSlow", "internal/sync.fatal", "internal/sync.runtime_Semrelease", "sync/atomic.StoreUint32", "sync/atomic.LoadPointer"], unfollowed := true, recurses := true, named := ["math/bits.divideError", "math/bits.overflowError"], apart := false }
def ParseAgreeSaid : Prop := parseAgreeRow.holds Tryz.pinned (OpenSpec.ofChange parseAgreeSpec)

/-- ITS FALSE NEIGHBOUR: 'it returns false'. Refute it at one input. -/
def parseAgreeWrong : ChangeSpec := { name := "parseAgree", fn := fun _ => fun
  | [d1, d2] => { results := [.lit (.bool false)], args := [d1, d2] }
  | _ => none }
def ParseAgreeWrongFalsely : Prop := parseAgreeRow.holds Tryz.pinned (OpenSpec.ofChange parseAgreeWrong)

/-- 'mintagelaw09.ParseNeeds': WHATEVER THE INPUT: true; the input reads as it did. -/
def parseNeedsSpec : ChangeSpec := { name := "parseNeeds", fn := fun _ => fun
  | [d1, d2] => { results := [.lit (.bool true)], args := [d1, d2] }
  | _ => none }
def parseNeedsRow : OpenClaim := { program := "ytjcbdogohjafdaagreat", sum := "d40f8b770114c4aa7dc4b9c1c9d2469b49df3346ce6ff035f9f655ce3c697b4e", func := "mintage/mintagelaw09.ParseNeeds", spec := "parseNeeds", inPlace := ["math.Float32bits", "math.Float64bits", "sync/atomic.AddInt64", "math/bits.Add64", "math/bits.Sub64", "sync/atomic.StorePointer", "sync/atomic.LoadUint32", "(*internal/sync.Mutex).Lock", "internal/race.Disable", "sync/atomic.CompareAndSwapInt32", "internal/race.Enable", "internal/race.Acquire", "(*internal/sync.Mutex).lockSlow", "internal/sync.runtime_canSpin", "internal/sync.runtime_doSpin", "internal/sync.throw", "internal/sync.runtime_nanotime", "internal/sync.runtime_SemacquireMutex", "sync/atomic.AddInt32", "(*internal/sync.Mutex).Unlock", "internal/race.ReleaseMerge", "(*internal/sync.Mutex).unlockSlow", "internal/sync.fatal", "internal/sync.runtime_Semrelease", "sync/atomic.StoreUint32", "sync/atomic.LoadPointer", "sync/atomic.LoadInt64"], unfollowed := true, recurses := true, named := ["math/bits.divideError", "math/bits.overflowError"], apart := false }
def ParseNeedsSaid : Prop := parseNeedsRow.holds Tryz.pinned (OpenSpec.ofChange parseNeedsSpec)

/-- ITS FALSE NEIGHBOUR: 'it returns false'. Refute it at one input. -/
def parseNeedsWrong : ChangeSpec := { name := "parseNeeds", fn := fun _ => fun
  | [d1, d2] => { results := [.lit (.bool false)], args := [d1, d2] }
  | _ => none }
def ParseNeedsWrongFalsely : Prop := parseNeedsRow.holds Tryz.pinned (OpenSpec.ofChange parseNeedsWrong)

/-- 'mintagelaw09.ParseOrder': WHATEVER THE INPUT: true; the input reads as it did. -/
def parseOrderSpec : ChangeSpec := { name := "parseOrder", fn := fun _ => fun
  | [d1, d2, d3, d4] => { results := [.lit (.bool true)], args := [d1, d2, d3, d4] }
  | _ => none }
def parseOrderRow : OpenClaim := { program := "ytjcbdogohjafdaagreat", sum := "d40f8b770114c4aa7dc4b9c1c9d2469b49df3346ce6ff035f9f655ce3c697b4e", func := "mintage/mintagelaw09.ParseOrder", spec := "parseOrder", inPlace := ["math.Float32bits", "math.Float64bits", "sync/atomic.AddInt64", "math/bits.Add64", "math/bits.Sub64", "sync/atomic.StorePointer", "sync/atomic.LoadUint32", "(*internal/sync.Mutex).Lock", "internal/race.Disable", "sync/atomic.CompareAndSwapInt32", "internal/race.Enable", "internal/race.Acquire", "(*internal/sync.Mutex).lockSlow", "internal/sync.runtime_canSpin", "internal/sync.runtime_doSpin", "internal/sync.throw", "internal/sync.runtime_nanotime", "internal/sync.runtime_SemacquireMutex", "sync/atomic.AddInt32", "(*internal/sync.Mutex).Unlock", "internal/race.ReleaseMerge", "(*internal/sync.Mutex).unlockSlow", "internal/sync.fatal", "internal/sync.runtime_Semrelease", "sync/atomic.StoreUint32", "sync/atomic.LoadPointer"], unfollowed := true, recurses := true, named := ["math/bits.divideError", "math/bits.overflowError"], apart := false }
def ParseOrderSaid : Prop := parseOrderRow.holds Tryz.pinned (OpenSpec.ofChange parseOrderSpec)

/-- ITS FALSE NEIGHBOUR: 'it returns false'. Refute it at one input. -/
def parseOrderWrong : ChangeSpec := { name := "parseOrder", fn := fun _ => fun
  | [d1, d2, d3, d4] => { results := [.lit (.bool false)], args := [d1, d2, d3, d4] }
  | _ => none }
def ParseOrderWrongFalsely : Prop := parseOrderRow.holds Tryz.pinned (OpenSpec.ofChange parseOrderWrong)

/-- 'mintagelaw09.ParseNearest': WHATEVER THE INPUT: true; the input reads as it did. -/
def parseNearestSpec : ChangeSpec := { name := "parseNearest", fn := fun _ => fun
  | [d1, d2, d3] => { results := [.lit (.bool true)], args := [d1, d2, d3] }
  | _ => none }
def parseNearestRow : OpenClaim := { program := "ytjcbdogohjafdaagreat", sum := "d40f8b770114c4aa7dc4b9c1c9d2469b49df3346ce6ff035f9f655ce3c697b4e", func := "mintage/mintagelaw09.ParseNearest", spec := "parseNearest", inPlace := ["math.Float32bits", "math.Float64bits", "sync/atomic.AddInt64", "math/bits.Add64", "math/bits.Sub64", "sync/atomic.StorePointer", "sync/atomic.LoadUint32", "(*internal/sync.Mutex).Lock", "internal/race.Disable", "sync/atomic.CompareAndSwapInt32", "internal/race.Enable", "internal/race.Acquire", "(*internal/sync.Mutex).lockSlow", "internal/sync.runtime_canSpin", "internal/sync.runtime_doSpin", "internal/sync.throw", "internal/sync.runtime_nanotime", "internal/sync.runtime_SemacquireMutex", "sync/atomic.AddInt32", "(*internal/sync.Mutex).Unlock", "internal/race.ReleaseMerge", "(*internal/sync.Mutex).unlockSlow", "internal/sync.fatal", "internal/sync.runtime_Semrelease", "sync/atomic.StoreUint32", "sync/atomic.LoadPointer"], unfollowed := true, recurses := true, named := ["math/bits.divideError", "math/bits.overflowError"], apart := false }
def ParseNearestSaid : Prop := parseNearestRow.holds Tryz.pinned (OpenSpec.ofChange parseNearestSpec)

/-- ITS FALSE NEIGHBOUR: 'it returns false'. Refute it at one input. -/
def parseNearestWrong : ChangeSpec := { name := "parseNearest", fn := fun _ => fun
  | [d1, d2, d3] => { results := [.lit (.bool false)], args := [d1, d2, d3] }
  | _ => none }
def ParseNearestWrongFalsely : Prop := parseNearestRow.holds Tryz.pinned (OpenSpec.ofChange parseNearestWrong)

/- THE SECOND FORM. 'bulk': how many values and letters a reading holds, each counted each time it is reached (what is shared counts as often as it is met; a slice's spare places count too). A statement '..UptoSaid' is the law's where the arguments, and the package variables that the reading takes, are together of bulk at most 1048576: NARROWER than '..Said'. Prove '..Said' where nothing that the law and all that it calls make is longer than what came in: it says more and counts as full. Else prove '..UptoSaid'. A law counts once. -/
mutual
def uptoBulk {H : Type} : DataW H → Nat
  | .lit (.string bytes) => bytes.length + 1
  | .lit _ => 1
  | .nil => 1
  | .ptr d => uptoBulk d + 1
  | .slice elems spare => uptoBulkAll elems + uptoBulkAll spare + 1
  | .agg parts => uptoBulkAll parts + 1
  | .iface _ d => uptoBulk d + 1
  | .map entries => uptoBulkEntries entries + 1
  | .held _ => 1
def uptoBulkAll {H : Type} : List (DataW H) → Nat
  | [] => 0
  | d :: r => uptoBulk d + uptoBulkAll r
def uptoBulkEntries {H : Type} : List (Lit × DataW H) → Nat
  | [] => 0
  | x :: r => uptoBulkEntry x + uptoBulkEntries r
def uptoBulkEntry {H : Type} : Lit × DataW H → Nat
  | (.string bytes, d) => bytes.length + uptoBulk d + 1
  | (_, d) => uptoBulk d + 1
 end
def uptoSmall : (H : Type) → List (DataW H) → Bool := fun _ ds => decide (uptoBulkAll ds ≤ 1048576)
def OpenSpec.upto (s : _root_.Go.ChangeSpec) : _root_.Go.OpenSpec := { _root_.Go.OpenSpec.ofChange s with cond := some uptoSmall }

/-- 'mintagelaw09.ParseFloats', WHERE WHAT IT READS IS OF BULK AT MOST 1048576: true; the input reads as it did. -/
def parseFloatsUptoRow : OpenClaim := { program := "ytjcbdogohjafdaagreat", sum := "d40f8b770114c4aa7dc4b9c1c9d2469b49df3346ce6ff035f9f655ce3c697b4e", func := "mintage/mintagelaw09.ParseFloats", spec := "parseFloats", inPlace := ["math.Float32bits", "math.Float64bits", "sync/atomic.AddInt64", "math/bits.Add64", "math/bits.Sub64", "sync/atomic.StorePointer", "sync/atomic.LoadUint32", "(*internal/sync.Mutex).Lock", "internal/race.Disable", "sync/atomic.CompareAndSwapInt32", "internal/race.Enable", "internal/race.Acquire", "(*internal/sync.Mutex).lockSlow", "internal/sync.runtime_canSpin", "internal/sync.runtime_doSpin", "internal/sync.throw", "internal/sync.runtime_nanotime", "internal/sync.runtime_SemacquireMutex", "sync/atomic.AddInt32", "(*internal/sync.Mutex).Unlock", "internal/race.ReleaseMerge", "(*internal/sync.Mutex).unlockSlow", "internal/sync.fatal", "internal/sync.runtime_Semrelease", "sync/atomic.StoreUint32", "sync/atomic.LoadPointer"], unfollowed := true, recurses := true, named := ["math/bits.divideError", "math/bits.overflowError"], apart := false, narrowed := true }
def ParseFloatsUptoSaid : Prop := parseFloatsUptoRow.holds Tryz.pinned (OpenSpec.upto parseFloatsSpec)

/-- 'mintagelaw09.ParseTables', WHERE WHAT IT READS IS OF BULK AT MOST 1048576: true; the input reads as it did. -/
def parseTablesUptoRow : OpenClaim := { program := "ytjcbdogohjafdaagreat", sum := "d40f8b770114c4aa7dc4b9c1c9d2469b49df3346ce6ff035f9f655ce3c697b4e", func := "mintage/mintagelaw09.ParseTables", spec := "parseTables", inPlace := ["sync/atomic.AddInt64", "math/bits.Add64", "math/bits.Sub64", "sync/atomic.StorePointer", "sync/atomic.LoadUint32", "(*internal/sync.Mutex).Lock", "internal/race.Disable", "sync/atomic.CompareAndSwapInt32", "internal/race.Enable", "internal/race.Acquire", "(*internal/sync.Mutex).lockSlow", "internal/sync.runtime_canSpin", "internal/sync.runtime_doSpin", "internal/sync.throw", "internal/sync.runtime_nanotime", "internal/sync.runtime_SemacquireMutex", "sync/atomic.AddInt32", "(*internal/sync.Mutex).Unlock", "internal/race.ReleaseMerge", "(*internal/sync.Mutex).unlockSlow", "internal/sync.fatal", "internal/sync.runtime_Semrelease", "sync/atomic.StoreUint32", "sync/atomic.LoadPointer", "math.Float32bits", "math.Float64bits"], unfollowed := true, recurses := true, named := ["math/bits.divideError", "math/bits.overflowError"], apart := false, narrowed := true }
def ParseTablesUptoSaid : Prop := parseTablesUptoRow.holds Tryz.pinned (OpenSpec.upto parseTablesSpec)

/-- 'mintagelaw09.ParseKnown', WHERE WHAT IT READS IS OF BULK AT MOST 1048576: true; the input reads as it did. -/
def parseKnownUptoRow : OpenClaim := { program := "ytjcbdogohjafdaagreat", sum := "d40f8b770114c4aa7dc4b9c1c9d2469b49df3346ce6ff035f9f655ce3c697b4e", func := "mintage/mintagelaw09.ParseKnown", spec := "parseKnown", inPlace := ["math.Float32bits", "math.Float64bits", "sync/atomic.AddInt64", "math/bits.Add64", "math/bits.Sub64", "sync/atomic.StorePointer", "sync/atomic.LoadUint32", "(*internal/sync.Mutex).Lock", "internal/race.Disable", "sync/atomic.CompareAndSwapInt32", "internal/race.Enable", "internal/race.Acquire", "(*internal/sync.Mutex).lockSlow", "internal/sync.runtime_canSpin", "internal/sync.runtime_doSpin", "internal/sync.throw", "internal/sync.runtime_nanotime", "internal/sync.runtime_SemacquireMutex", "sync/atomic.AddInt32", "(*internal/sync.Mutex).Unlock", "internal/race.ReleaseMerge", "(*internal/sync.Mutex).unlockSlow", "internal/sync.fatal", "internal/sync.runtime_Semrelease", "sync/atomic.StoreUint32", "sync/atomic.LoadPointer"], unfollowed := true, recurses := true, named := ["math/bits.divideError", "math/bits.overflowError"], apart := false, narrowed := true }
def ParseKnownUptoSaid : Prop := parseKnownUptoRow.holds Tryz.pinned (OpenSpec.upto parseKnownSpec)

/-- 'mintagelaw09.ParseExacts', WHERE WHAT IT READS IS OF BULK AT MOST 1048576: true; the input reads as it did. -/
def parseExactsUptoRow : OpenClaim := { program := "ytjcbdogohjafdaagreat", sum := "d40f8b770114c4aa7dc4b9c1c9d2469b49df3346ce6ff035f9f655ce3c697b4e", func := "mintage/mintagelaw09.ParseExacts", spec := "parseExacts", inPlace := ["math/bits.Add64", "math/bits.Sub64", "math.Float32bits", "math.Float64bits", "sync/atomic.AddInt64", "sync/atomic.StorePointer", "sync/atomic.LoadUint32", "(*internal/sync.Mutex).Lock", "internal/race.Disable", "sync/atomic.CompareAndSwapInt32", "internal/race.Enable", "internal/race.Acquire", "(*internal/sync.Mutex).lockSlow", "internal/sync.runtime_canSpin", "internal/sync.runtime_doSpin", "internal/sync.throw", "internal/sync.runtime_nanotime", "internal/sync.runtime_SemacquireMutex", "sync/atomic.AddInt32", "(*internal/sync.Mutex).Unlock", "internal/race.ReleaseMerge", "(*internal/sync.Mutex).unlockSlow", "internal/sync.fatal", "internal/sync.runtime_Semrelease", "sync/atomic.StoreUint32", "sync/atomic.LoadPointer"], unfollowed := true, recurses := true, named := ["math/bits.divideError", "math/bits.overflowError"], apart := false, narrowed := true }
def ParseExactsUptoSaid : Prop := parseExactsUptoRow.holds Tryz.pinned (OpenSpec.upto parseExactsSpec)

/-- 'mintagelaw09.ParseAgree', WHERE WHAT IT READS IS OF BULK AT MOST 1048576: true; the input reads as it did. -/
def parseAgreeUptoRow : OpenClaim := { program := "ytjcbdogohjafdaagreat", sum := "d40f8b770114c4aa7dc4b9c1c9d2469b49df3346ce6ff035f9f655ce3c697b4e", func := "mintage/mintagelaw09.ParseAgree", spec := "parseAgree", inPlace := ["math.Float32bits", "math.Float64bits", "sync/atomic.AddInt64", "math/bits.Add64", "math/bits.Sub64", "sync/atomic.StorePointer", "sync/atomic.LoadUint32", "(*internal/sync.Mutex).Lock", "internal/race.Disable", "sync/atomic.CompareAndSwapInt32", "internal/race.Enable", "internal/race.Acquire", "(*internal/sync.Mutex).lockSlow", "internal/sync.runtime_canSpin", "internal/sync.runtime_doSpin", "internal/sync.throw", "internal/sync.runtime_nanotime", "internal/sync.runtime_SemacquireMutex", "sync/atomic.AddInt32", "(*internal/sync.Mutex).Unlock", "internal/race.ReleaseMerge", "(*internal/sync.Mutex).unlockSlow", "internal/sync.fatal", "internal/sync.runtime_Semrelease", "sync/atomic.StoreUint32", "sync/atomic.LoadPointer"], unfollowed := true, recurses := true, named := ["math/bits.divideError", "math/bits.overflowError"], apart := false, narrowed := true }
def ParseAgreeUptoSaid : Prop := parseAgreeUptoRow.holds Tryz.pinned (OpenSpec.upto parseAgreeSpec)

/-- 'mintagelaw09.ParseNeeds', WHERE WHAT IT READS IS OF BULK AT MOST 1048576: true; the input reads as it did. -/
def parseNeedsUptoRow : OpenClaim := { program := "ytjcbdogohjafdaagreat", sum := "d40f8b770114c4aa7dc4b9c1c9d2469b49df3346ce6ff035f9f655ce3c697b4e", func := "mintage/mintagelaw09.ParseNeeds", spec := "parseNeeds", inPlace := ["math.Float32bits", "math.Float64bits", "sync/atomic.AddInt64", "math/bits.Add64", "math/bits.Sub64", "sync/atomic.StorePointer", "sync/atomic.LoadUint32", "(*internal/sync.Mutex).Lock", "internal/race.Disable", "sync/atomic.CompareAndSwapInt32", "internal/race.Enable", "internal/race.Acquire", "(*internal/sync.Mutex).lockSlow", "internal/sync.runtime_canSpin", "internal/sync.runtime_doSpin", "internal/sync.throw", "internal/sync.runtime_nanotime", "internal/sync.runtime_SemacquireMutex", "sync/atomic.AddInt32", "(*internal/sync.Mutex).Unlock", "internal/race.ReleaseMerge", "(*internal/sync.Mutex).unlockSlow", "internal/sync.fatal", "internal/sync.runtime_Semrelease", "sync/atomic.StoreUint32", "sync/atomic.LoadPointer", "sync/atomic.LoadInt64"], unfollowed := true, recurses := true, named := ["math/bits.divideError", "math/bits.overflowError"], apart := false, narrowed := true }
def ParseNeedsUptoSaid : Prop := parseNeedsUptoRow.holds Tryz.pinned (OpenSpec.upto parseNeedsSpec)

/-- 'mintagelaw09.ParseOrder', WHERE WHAT IT READS IS OF BULK AT MOST 1048576: true; the input reads as it did. -/
def parseOrderUptoRow : OpenClaim := { program := "ytjcbdogohjafdaagreat", sum := "d40f8b770114c4aa7dc4b9c1c9d2469b49df3346ce6ff035f9f655ce3c697b4e", func := "mintage/mintagelaw09.ParseOrder", spec := "parseOrder", inPlace := ["math.Float32bits", "math.Float64bits", "sync/atomic.AddInt64", "math/bits.Add64", "math/bits.Sub64", "sync/atomic.StorePointer", "sync/atomic.LoadUint32", "(*internal/sync.Mutex).Lock", "internal/race.Disable", "sync/atomic.CompareAndSwapInt32", "internal/race.Enable", "internal/race.Acquire", "(*internal/sync.Mutex).lockSlow", "internal/sync.runtime_canSpin", "internal/sync.runtime_doSpin", "internal/sync.throw", "internal/sync.runtime_nanotime", "internal/sync.runtime_SemacquireMutex", "sync/atomic.AddInt32", "(*internal/sync.Mutex).Unlock", "internal/race.ReleaseMerge", "(*internal/sync.Mutex).unlockSlow", "internal/sync.fatal", "internal/sync.runtime_Semrelease", "sync/atomic.StoreUint32", "sync/atomic.LoadPointer"], unfollowed := true, recurses := true, named := ["math/bits.divideError", "math/bits.overflowError"], apart := false, narrowed := true }
def ParseOrderUptoSaid : Prop := parseOrderUptoRow.holds Tryz.pinned (OpenSpec.upto parseOrderSpec)

/-- 'mintagelaw09.ParseNearest', WHERE WHAT IT READS IS OF BULK AT MOST 1048576: true; the input reads as it did. -/
def parseNearestUptoRow : OpenClaim := { program := "ytjcbdogohjafdaagreat", sum := "d40f8b770114c4aa7dc4b9c1c9d2469b49df3346ce6ff035f9f655ce3c697b4e", func := "mintage/mintagelaw09.ParseNearest", spec := "parseNearest", inPlace := ["math.Float32bits", "math.Float64bits", "sync/atomic.AddInt64", "math/bits.Add64", "math/bits.Sub64", "sync/atomic.StorePointer", "sync/atomic.LoadUint32", "(*internal/sync.Mutex).Lock", "internal/race.Disable", "sync/atomic.CompareAndSwapInt32", "internal/race.Enable", "internal/race.Acquire", "(*internal/sync.Mutex).lockSlow", "internal/sync.runtime_canSpin", "internal/sync.runtime_doSpin", "internal/sync.throw", "internal/sync.runtime_nanotime", "internal/sync.runtime_SemacquireMutex", "sync/atomic.AddInt32", "(*internal/sync.Mutex).Unlock", "internal/race.ReleaseMerge", "(*internal/sync.Mutex).unlockSlow", "internal/sync.fatal", "internal/sync.runtime_Semrelease", "sync/atomic.StoreUint32", "sync/atomic.LoadPointer"], unfollowed := true, recurses := true, named := ["math/bits.divideError", "math/bits.overflowError"], apart := false, narrowed := true }
def ParseNearestUptoSaid : Prop := parseNearestUptoRow.holds Tryz.pinned (OpenSpec.upto parseNearestSpec)

end Rows
end Go.Proofs.YtjcbdogohjafdaaGreat
