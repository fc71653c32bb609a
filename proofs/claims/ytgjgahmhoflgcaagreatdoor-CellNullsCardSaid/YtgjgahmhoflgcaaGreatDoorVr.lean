/- What the proofs of rows have in common: a law that leaves all old memory alone and answers true. -/
import Derived.Test.YtgjgahmhoflgcaaGreatDoorVe
import Derived.ProofKit
set_option linter.unusedVariables false
set_option linter.unusedSimpArgs false
namespace Go.Vc
open Go.ChangeShapes Go.WideShapes Go.ChangeAt Go.RowKit
section
variable {H : Type} {enc : TypeId × Value → H} {P : Program} {W W' : World}
theorem trodAll_below (hl : laidOutB P = true) (hb : Below W.heap.size W W') : ∀ {ts : List TypeId} {vs : List Value} {ds : List (DataW H)} {ps : List MemPlace}, (∀ t ∈ ts, P.readableRec t = true ∧ t < P.types.size) →
  DataW.TrodAll enc P W 0 (fun _ => true) true ts vs ds ps → (∀ x ∈ ps, x.block < W.heap.size) → ∀ sp : Nat → Bool, (∀ x ∈ ps, sp x.block = true) → DataW.TrodAll enc P W' 0 sp true ts vs ds ps
 | [], [], [], ps, _, h, _, _, _ => h
 | t :: ts, v :: vs, d :: ds, ps, hr, h, hlt, sp, hs => by
  obtain ⟨p, q, h1, h2, rfl⟩ := h
  refine ⟨p, q, ?_, trodAll_below hl hb (fun t ht => hr t (.tail _ ht)) h2 (fun x hx => hlt x (List.mem_append_right _ hx)) sp (fun x hx => hs x (List.mem_append_right _ hx)), rfl⟩
  exact WideElems.Trod_stays hl (hr t (.head _)).1 (hr t (.head _)).2 h1 (fun x hx => hb.same (hlt x (List.mem_append_left _ hx))) (fun x hx => hs x (List.mem_append_left _ hx))
 | [], [], _ :: _, _, _, h, _, _, _ => h.elim
 | [], _ :: _, _, _, _, h, _, _, _ => h.elim
 | _ :: _, [], _, _, _, h, _, _, _ => h.elim
 | _ :: _, _ :: _, [], _, _, h, _, _, _ => h.elim
theorem post_below {f : Func} {s : ChangeSpec} {apart fresh handsOn again : Bool} {args : Array Value} {ds : List (DataW H)} {before : List MemPlace} {t : TypeId}
  (hl : laidOutB P = true) (hp : ∀ t ∈ f.params.toList, P.readableRec t = true ∧ t < P.types.size) (hvars : s.vars = [])
  (hW : DataW.Whole enc P f.params.toList s.vars apart W args.toList ds [] before) (hb : Below W.heap.size W W')
  (hs : (s.fn H (ds ++ [])).results = [.lit (.bool true)]) (ha : (s.fn H (ds ++ [])).args = ds) (hv : (s.fn H (ds ++ [])).vars = []) (hr : f.resultTypes = #[t]) (ht : P.underlying t = some .bool) :
  s.post enc P f apart fresh handsOn again W args (.bool true) W' := by
 have hlt := hW.lt
 have hold : ∀ p ∈ before, (fun b => decide (b < W.heap.size)) p.block = true := fun p hp => by simpa using hlt p hp
 obtain ⟨p, q, hA, hV, hpq, hz, hn⟩ := id hW
 rw [hvars] at hV
 have hq : q = [] := hV
 subst hq
 rw [List.append_nil] at hpq
 subst hpq
 have hargs : ∀ sp : Nat → Bool, (∀ x ∈ before, sp x.block = true) → DataW.TrodAll enc P W' 0 sp true f.params.toList args.toList (s.fn H (ds ++ [])).args before := fun sp hsp => by
  rw [ha]; exact trodAll_below hl hb hp hA hlt sp hsp
 have hres : ∀ (b : Nat) (sp : Nat → Bool) (hd : Bool), DataW.TrodAll enc P W' b sp hd f.resultTypes.toList ((Value.bool true).resultList f.resultTypes.size) (s.fn H (ds ++ [])).results [] := fun b sp hd => by
  rw [hs, hr]; exact trodAll_mk1 (shut_bool ht true)
 have hvs : ∀ sp : Nat → Bool, DataW.TrodVars enc P W' sp s.vars (s.fn H (ds ++ [])).vars [] := fun sp => by
  rw [hv, hvars]; rfl
 refine ⟨ds, [], before, [], before, [], hW, hres _ _ _, hargs _ hold, hvs _, World.keptBut_mono (fun p hp => ⟨hp, .inr (.inl hp)⟩) (hb.frame _), fun _ => ?_⟩
 refine ⟨ok_one hr rfl (okWide_bool_mk ht true), _, _, ([] ++ before) ++ [], ⟨[] ++ before, [], trodAll_append (hargs _ (fun _ _ => rfl)) (hres _ _ _), hvs _, rfl, ?_, ?_⟩, ?_⟩
 ·intro b off hp
  have hp' : MemPlace.cell b off ∈ before := by simpa using hp
  have := hlt _ hp'
  rw [hb.frozen (p := ⟨b, off, none⟩) this]
  exact hz b off (by simpa using hp')
 ·intro h
  simpa using hn h
 intro p hp _
 simpa using hp
theorem cell_int {r : Reach} {b0 : Nat} {t : TypeId} {k : IntKind} {v : Value} (ht : P.underlying t = some (.int k)) (h : Cell.okWide P W r b0 t v) : ∃ n, v = .int k n ∧ k.has n := by
 simp only [Cell.okWide, ht] at h
 cases v <;> simp_all [Cell.ok]
theorem open_i64 {r : Reach} {b0 : Nat} {t : TypeId} {v : Value} (ht : P.underlying t = some (.int .i64)) (hval : Value.okWide P W r b0 t v) : ∃ n, v = .int .i64 n ∧ -9223372036854775808 ≤ n ∧ n ≤ 9223372036854775807 := by
 have h : Cell.okWide P W r b0 t v := by simpa only [Value.okWide, ht] using hval
 obtain ⟨n, rfl, hn⟩ := cell_int ht h
 have e1 : IntKind.min .i64 = -9223372036854775808 := by decide
 have e2 : IntKind.max .i64 = 9223372036854775807 := by decide
 have h' : IntKind.min .i64 ≤ n ∧ n ≤ IntKind.max .i64 := hn
 rw [e1, e2] at h'
 exact ⟨n, rfl, h'⟩
theorem mapM_at {α β : Type} {f : α → Option β} : ∀ {l : List α} {xs : List β}, l.mapM f = some xs → ∀ (i : Nat) (a : α), l[i]? = some a → ∃ b, f a = some b
 | [], _, _, i, a, h => by simp at h
 | x :: l, xs, h, i, a, hi => by
  rw [List.mapM_cons] at h
  cases hx : f x with
  | none => simp [hx] at h
  | some y =>
   cases hr : l.mapM f with
   | none => simp [hx, hr] at h
   | some ys =>
    cases i with
    | zero => simp at hi; subst hi; exact ⟨y, hx⟩
    | succ i => exact mapM_at hr i a (by simpa using hi)
theorem trod_field {t : TypeId} {fs : Array Field} {v : Value} {d : DataW H} {ps : List MemPlace} (ht : P.underlying t = some (.struct fs)) (h : DataW.Trod enc P W 0 (fun _ => true) true t v d ps) :
  v.cells.toList.length = P.cellsOf t ∧ ∀ (i : Nat) (f : Field), fs.toList[i]? = some f → ∃ fuel x, DataW.trod enc P W 0 (fun _ => true) true fuel f.type ((v.cells.toList.drop f.offset).take (P.cellsOf f.type)) = some x := by
 obtain ⟨fuel, hf⟩ := h
 cases fuel with
 | zero => simp [DataW.trod] at hf
 | succ n =>
  simp only [DataW.trod, ht] at hf
  split at hf
  ·rename_i hl
   refine ⟨hl, fun i f hi => ?_⟩
   simp only [Option.map_eq_some_iff] at hf
   obtain ⟨xs, hm, _⟩ := hf
   obtain ⟨b, hb⟩ := mapM_at hm i f hi
   exact ⟨n, b, hb⟩
  cases hf
theorem cells_bytes {t e : TypeId} {fuel : Nat} {cs : List Value} {x : DataW H × List MemPlace} (ht : P.underlying t = some (.slice e)) (he : P.underlying e = some (.int .u8)) (hc : P.cellsOf e = 1) (h : DataW.trod enc P W 0 (fun _ => true) true fuel t cs = some x) : ∃ v l, cs = [v] ∧ IB W v l := by
 rcases open_ints ht he hc h with ⟨hcs, _⟩ | ⟨a, len', cap', zs, hcs, _, hl, hm, hz, _, hcell, hwz⟩
 ·exact ⟨_, [], hcs, IV.nil W⟩
 simp only [if_true] at hz
 refine ⟨_, (zs.take len').map fun n => UInt8.ofNat n.toNat, hcs, ?_⟩
 have e1 : bys ((zs.take len').map fun n => UInt8.ofNat n.toNat) = ints .u8 (zs.take len') := by
  simp only [ints, bys, List.map_map]
  refine List.map_congr_left fun n hn => ?_
  have h1 := hwz n (List.mem_of_mem_take hn)
  simp only [Lit.wf, Bool.and_eq_true, decide_eq_true_eq] at h1
  have e1 : IntKind.min .u8 = 0 := by decide
  have e2 : IntKind.max .u8 = 255 := by decide
  rw [e1, e2] at h1
  show Value.int .u8 (((UInt8.ofNat n.toNat).toNat : Nat) : Int) = Value.int .u8 n
  congr 1
  have : (UInt8.ofNat n.toNat).toNat = n.toNat := by
   rw [UInt8.toNat_ofNat']
   exact Nat.mod_eq_of_lt ZO
  rw [this]
  omega
 show IV W _ (bys _)
 rw [e1]
 have hlen : (ints .u8 (zs.take len')).length = len' := by rw [List.length_map, List.length_take]; omega
 refine ⟨some a, cap', by rw [hlen], by omega, fun j v hj => ⟨a, rfl, ?_⟩⟩
 have hj' : j < len' := by rw [← hlen]; exact (List.getElem?_eq_some_iff.1 hj).1
 rw [hcell j ZO]
 rw [Z4J _ _ _ (by rw [List.length_take]; omega)] at hj
 injection hj with hj
 rw [← hj]
 congr 2
 simp [List.getD, List.getElem?_take, hj']
theorem open_str {r : Reach} {b0 : Nat} {t : TypeId} {v : Value} (ht : P.underlying t = some .string) (hval : Value.okWide P W r b0 t v) : ∃ l : List UInt8, v = str l := by
 obtain ⟨⟨⟨l⟩⟩, rfl⟩ := okWide_string ht hval
 exact ⟨l, rfl⟩
end
theorem Grow.below {w w' : World} {τ : List As} (h : Grow w w' τ) : Below w.heap.size w w' := (h w w.heap.size Z0J [] (St.start w)).ext.below
end Go.Vc
