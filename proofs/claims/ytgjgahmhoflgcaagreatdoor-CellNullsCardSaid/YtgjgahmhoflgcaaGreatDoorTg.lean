/- recover; walk of scaled's Parse -/
import Derived.Recover
import Derived.Defers
import Derived.Tactics
import Derived.Tactics2
import Derived.Laws.Pointers
import Derived.Recover
import Derived.Defers
import Derived.Test.YtgjgahmhoflgcaaGreatDoorTa
set_option linter.unusedVariables false
set_option linter.unusedSimpArgs false
set_option maxRecDepth 10000
namespace Go.Proofs.YtgjgahmhoflgcaaGreatDoor.W
open Go.Vc Go.RowKit Tryz
section
variable {P : Program} {N : Nat} {ρ : Env} {w : World} {cs : List Frame} {Q : Exit → Act → List Frame → World → Prop}
def RunS (P : Program) (N : Nat) (c : Code) (Q : Exit → Act → List Frame → World → Prop) (ρ : Env) (cs : List Frame) (w : World) : Prop := ∀ a, Fits N ρ a → c.wpS P Q a cs w
theorem s_seq {x y : Code} (n : RunS P N x (Exit.thenS (y.wpS P Q) Q) ρ cs w) : RunS P N (.seq x y) Q ρ cs w := fun a ha => wpS_seq (n a ha)
theorem s_code {c : Code} (n : RunC P N c (fun e a w' => Q e a cs w') ρ w) : RunS P N c Q ρ cs w := fun a ha => wpS_of_wp (n a ha)
theorem s_codeX {c : Code} (n : ∀ QX : Post, QX = (fun e a w' => Q e a cs w') → RunC P N c QX ρ w) : RunS P N c Q ρ cs w := s_code (n _ rfl)
theorem e_thenS {y : Code} (n : RunS P N y Q ρ cs w) : RunE N .normal (fun e a w' => Exit.thenS (y.wpS P Q) Q e a cs w') ρ w := n
theorem Z5J {ops : Array Oper} (hno : ∀ a w', ¬ Q .outgrown a cs w') : ∀ (l : List Nat) (a : Act) (w : World), wpOps P ops (fun e a' w' => Q e a' cs w') l a w → wpOpsS P ops Q l a cs w
 | [], a, w, h => h
 | i :: l, a, w, h => by
  unfold wpOps at h
  unfold wpOpsS
  cases ho : ops[i]? with
  | none => simp only [ho] at h ⊢; exact Z5J hno l a w h
  | some o =>
   simp only [ho] at h ⊢
   by_cases hw : Region.wanted o (yielded ops a.tmps) = true
   ·rw [if_pos hw] at h ⊢
    rcases h with h | ⟨_, ⟨a1, w1, hq⟩⟩
    ·unfold Oper.wp at h
     have key : ∀ r : Result Next, o.upon P a (wpOps P ops (fun e a' w' => Q e a' cs w') l) (fun e a' w' => Q e a' cs w') r → (∀ w', r ≠ .ok .recover w') → o.upon P a (fun a' w' => wpOpsS P ops Q l a' cs w') (fun e a' w' => Q e a' cs w') r := by
      intro r hr hne
      unfold Oper.upon at hr ⊢
      split at hr
      ·exact Z5J hno l _ _ hr
      ·exact Z5J hno l _ _ hr
      ·exact Z5J hno l _ _ hr
      ·refine Calls.mono hr fun e w' q => ?_
       cases e with
       | returned v => exact Z5J hno l _ _ q
       | panicked ch => exact q
       | outgrown =>
        obtain ⟨a1, w1, hq⟩ := q
        exact absurd hq (hno a1 w1)
      ·exact Rows.mono hr fun v w' q => Z5J hno l _ _ q
      ·exact hr
      exact hr.elim
     split
     ·rename_i w' hr
      rw [hr] at h
      exact h.elim
     rename_i r hne
     exact key _ h fun w' e => hne w' e
    exact absurd hq (hno a1 w1)
   rw [if_neg hw] at h ⊢
   exact Z5J hno l _ _ h
theorem s_rec {i : Nat} {l : List Oper} {d : Nat} {ty : TypeId} {pos : String} {af : Array Edge} {c c' : Frame} {v : Value} (hN : Nat.blt d N = true) (hno : ∀ cs' a w', ¬ Q .outgrown a cs' w')
  (hr : (recoverD (c :: cs) = some (v, c' :: cs)) ∨ (recoverD (c :: cs) = none ∧ v = .nilIface ∧ c' = c))
  (n : RunL P N ((⟨some d, .call ⟨.builtin .recover, #[], #[]⟩, ty, pos, af, none⟩ : Oper) :: l).toArray ⟨false, fun e a w' => Q e a (c' :: cs) w'⟩ l ((d, v) :: ρ) w) :
  RunS P N (.region i ((⟨some d, .call ⟨.builtin .recover, #[], #[]⟩, ty, pos, af, none⟩ : Oper) :: l).toArray false) Q ρ (c :: cs) w := fun a ha => by
 refine wpS_region ?_
 have hn := n _ (ha.put d hN v)
 unfold lst at hn
 simp only [cond_false] at hn
 have hsz : (((⟨some d, .call ⟨.builtin .recover, #[], #[]⟩, ty, pos, af, none⟩ : Oper) :: l).toArray).size = l.length + 1 := by simp
 have e := wpOps_eq_wpList (P := P) (Q := fun e a w' => Q e a (c' :: cs) w') (ops := ((⟨some d, .call ⟨.builtin .recover, #[], #[]⟩, ty, pos, af, none⟩ : Oper) :: l).toArray) l 1 (fun j => by simp [Nat.add_comm 1 j])
 rw [← e] at hn
 have h2 := Z5J (fun a w' => hno (c' :: cs) a w') _ _ _ hn
 rw [hsz, List.range_eq_range', List.range'_succ]
 have hx : (execOp a.eval (⟨some d, .call ⟨.builtin .recover, #[], #[]⟩, ty, pos, af, none⟩ : Oper)).run P w = .ok .recover w := by simp [execOp, resolve, invoke, go_sem]
 have h0 : (((⟨some d, .call ⟨.builtin .recover, #[], #[]⟩, ty, pos, af, none⟩ : Oper) :: l).toArray)[0]? = some ⟨some d, .call ⟨.builtin .recover, #[], #[]⟩, ty, pos, af, none⟩ := by simp
 unfold wpOpsS
 simp only [h0]
 rw [if_pos (by simp [Region.wanted]), hx]
 simp only
 rcases hr with hr | ⟨hr, rfl, rfl⟩
 ·rw [hr]
  exact h2
 rw [hr]
 exact h2
end
section
variable {P : Program} {N : Nat} {ρ : Env} {w : World}
theorem enterS {f : FuncId} {fn : Func} {c : Code} {args : List Value} {u : FrameMode} {R : Ending → FrameMode → World → Prop} (hf : P.funcs[f]? = some fn) (hb : fn.body = some c) (hn : fn.ntmps = N)
  (hN : Nat.ble args.length N = true) (n : ∀ c₀ cs, c₀.mode = u → RunS P N c (bodyPostS P fn c₀ cs R) (args0 0 args) (c₀ :: cs) w) : CallsD P f args.toArray u w R := by
 subst hn
 have hN' : args.length ≤ fn.ntmps := by simpa using hN
 refine callsD_of_wpS hf hb fun c₀ cs hu => n c₀ cs hu _ ⟨rfl, by simp; omega, fun s v h => ?_⟩
 obtain ⟨_, h2⟩ := Z4b _ _ _ _ h
 simp only [Nat.sub_zero] at h2
 have hlt : s < args.length := (List.getElem?_eq_some_iff.1 h2).1
 rw [Array.getElem?_append_left (by simpa using hlt)]
 simpa using h2
theorem e_doneS0 {fn : Func} {c₀ : Frame} {cs cs' : List Frame} {u' : FrameMode} {R : Ending → FrameMode → World → Prop} (hr : fn.results = #[]) (hc : cs' = { c₀ with mode := u' } :: cs) (h : R (.returned (.tuple #[])) u' w) : RunE N .normal (fun e a w' => bodyPostS P fn c₀ cs R e a cs' w') ρ w := fun a ha =>
 ⟨ha.1, u', hc, .tuple #[], results_none hr _ _ _, h⟩
theorem l_tassert {Q : Z26} {ops : Array Oper} {rest : List Oper} {d : Nat} {ty : TypeId} {pos : String} {af : Array Edge} {g : Option (Nat × Bool)} {x : Operand} {v v' : Value} {s t : TypeId} {ok : Bool} (hg : Z0t ops ρ g = true) (hN : Nat.blt d N = true) (hx : Z0g ρ x = some v) (hr : ∀ w, (Instr.typeAssert v s t ok).run P w = .ok v' w)
  (n : RunL P N ops Q rest ((d, v') :: ρ) w) : RunL P N ops Q (⟨some d, .typeAssert x s t ok, ty, pos, af, g⟩ :: rest) ρ w :=
 Z1n hg rfl hN (fun a ha => by simp [execOp, ha.eval hx, hr]) n
end
theorem catchB (p0 p1 p2 : Nat) (x0 x1 x2 : Value) (pl el : Int) (older : List PanicEntry) (w : World) (hS : Sep w.heap.size (fps [As.blk p0 24 [x0], As.blk p1 3 [x1], As.blk p2 39 [x2]]) w [As.blk p0 24 [x0], As.blk p1 3 [x1], As.blk p2 39 [x2]]) :
  CallsD P 157 [.pointer (some ⟨p0, 0, none⟩), .pointer (some ⟨p1, 0, none⟩), .pointer (some ⟨p2, 0, none⟩)].toArray (.panicking ({ v := .iface 235 (.agg #[.int .i64 pl, .int .i64 el]), recovered := false } :: older)) w fun e u' w' => (e = .returned (.tuple #[]) ∧ u' = .panicking ({ v := .iface 235 (.agg #[.int .i64 pl, .int .i64 el]), recovered := true } :: older)) ∧ Z1C w w' [As.blk p0 24 [x0], As.blk p1 3 [x1], As.blk p2 39 [x2]] [As.blk p0 24 [.int .u64 0], As.blk p1 3 [.int .i64 pl], As.blk p2 39 [.int .i64 el]] := by
 refine enterS func157 rfl ntmps157 rfl fun c₀ cs hu => ?_
 have H0 : St w w.heap.size (fps [As.blk p0 24 [x0], As.blk p1 3 [x1], As.blk p2 39 [x2]]) [As.blk p0 24 [x0], As.blk p1 3 [x1], As.blk p2 39 [x2]] w := St.startS hS
 refine s_seq ?_
 refine s_rec (v := .iface 235 (.agg #[.int .i64 pl, .int .i64 el])) (c' := { c₀ with mode := .panicking ({ v := .iface 235 (.agg #[.int .i64 pl, .int .i64 el]), recovered := true } :: older) }) rfl (fun cs' a w' h => by obtain ⟨u', h⟩ := h; exact absurd h.1.1 (by simp)) (.inl (by simp [recoverD, hu])) ?_
 refine l_tassert (v' := .tuple #[.agg #[.int .i64 pl, .int .i64 el], .bool true]) rfl rfl rfl (fun _ => by kernel_rfl) ?_
 refine Zm ?_
 refine Zx (Zx ?_)
 refine Z0X H0 ta235 rfl rfl (fun b0_5 w51 H51 => ?_)
 refine Z0m H51 .head (.zero (.zero .nil)) rfl tz235 rfl rfl ZC (fun w52 H52 => ?_)
 refine Zg (Z01 ?_)
 refine e_thenS ?_
 refine s_codeX fun QX hQX => ?_
 refine Zk [0, 1, 2, 3, 4] ?_
 refine Z03 (Z00 (Zm ?_))
 refine Z0j (s := 10) (v' := .bool true) rfl (by rfl) ?_
 refine Z01 (Z02 ?_)
 refine Zk [0, 1, 2, 3, 10] ?_
 refine c_cond_t rfl rfl ?_
 have H53 := H52.drewn
 refine Z1a (n := 7) [Zz,Zz,Zz,Zz,Zz,Zz,Zz] (fun wS => (As.blk b0_5 235 [.int .i64 pl, .int .i64 el]).ok wS) ZK rfl rfl ?_
 apply Zu (L' := [Zy,Zz,Zz,Zz,Zz,Zz,Zz]) 0 (H53.ok mem0)
 ·intro wS sS
  refine Z09 fo235_0 rfl rfl rfl (Z01 ?_)
  exact Z04 rfl
 apply Zu (L' := [Zy,Zy,Zz,Zz,Zz,Zz,Zz]) 1 (H53.ok mem0)
 ·intro wS sS
  refine Z05 (Z0r sS) mem0 rfl rfl underlying3 rfl rfl rfl ?_
  refine Z01 ?_
  exact Z04 rfl
 apply Zu (L' := [Zy,Zy,Zy,Zz,Zz,Zz,Zz]) 2 (H53.ok mem0)
 ·intro wS sS
  refine Z09 fo235_1 rfl rfl rfl (Z01 ?_)
  exact Z04 rfl
 apply Zu (L' := [Zy,Zy,Zy,Zy,Zz,Zz,Zz]) 3 (H53.ok mem0)
 ·intro wS sS
  refine Z05 (Z0r sS) mem0 rfl rfl underlying39 rfl rfl rfl ?_
  refine Z01 ?_
  exact Z04 rfl
 refine Z0v (L' := [Zy,Zy,Zy,Zy,Zy,Zz,Zz]) 4 ZK rfl rfl ?_
 refine Z0s H53 (.tail .head) (by repeat (first | exact .zero | apply Z1F.succ)) rfl tz24 rfl rfl ZR (fun w54 H54 => ?_)
 refine Z01 ?_
 refine Z0n (H54.ok mem0) ?_
 refine Z0v (L' := [Zy,Zy,Zy,Zy,Zy,Zy,Zz]) 5 ZK rfl rfl ?_
 refine Z0s H54 (.tail (.tail .head)) (by repeat (first | exact .zero | apply Z1F.succ)) rfl tz3 rfl rfl ZR (fun w55 H55 => ?_)
 refine Z01 ?_
 refine Z0n (H55.ok mem0) ?_
 refine Z0v (L' := [Zy,Zy,Zy,Zy,Zy,Zy,Zy]) 6 ZK rfl rfl ?_
 refine Z0s H55 (.tail (.tail (.tail .head))) (by repeat (first | exact .zero | apply Z1F.succ)) rfl tz39 rfl rfl ZR (fun w56 H56 => ?_)
 refine Z01 ?_
 refine Z0n (H56.ok mem0) ?_
 refine Z0B ZK ?_
 subst hQX
 refine e_doneS0 results157 rfl ?_
 have H60 := St.del (.tail (.tail (.tail .head))) (St.front3 (St.front3 (St.front3 H56)))
 exact ⟨⟨rfl, rfl⟩, H60.transS⟩
theorem catchI (p0 p1 p2 : Nat) (x0 x1 x2 : Value) (pl el : Int) (older : List PanicEntry) (w : World) (hS : Sep w.heap.size (fps [As.blk p0 24 [x0], As.blk p1 3 [x1], As.blk p2 39 [x2]]) w [As.blk p0 24 [x0], As.blk p1 3 [x1], As.blk p2 39 [x2]]) :
  CallsD P 157 [.pointer (some ⟨p0, 0, none⟩), .pointer (some ⟨p1, 0, none⟩), .pointer (some ⟨p2, 0, none⟩)].toArray (.returning) w fun e u' w' => (e = .returned (.tuple #[]) ∧ u' = .returning) ∧ Z1C w w' [As.blk p0 24 [x0], As.blk p1 3 [x1], As.blk p2 39 [x2]] [As.blk p0 24 [x0], As.blk p1 3 [x1], As.blk p2 39 [x2]] := by
 refine enterS func157 rfl ntmps157 rfl fun c₀ cs hu => ?_
 have H0 : St w w.heap.size (fps [As.blk p0 24 [x0], As.blk p1 3 [x1], As.blk p2 39 [x2]]) [As.blk p0 24 [x0], As.blk p1 3 [x1], As.blk p2 39 [x2]] w := St.startS hS
 refine s_seq ?_
 refine s_rec (v := .nilIface) (c' := { c₀ with mode := .returning }) rfl (fun cs' a w' h => by obtain ⟨u', h⟩ := h; exact absurd h.1.1 (by simp)) (.inr ⟨by simp [recoverD, hu], rfl, by rw [← hu]⟩) ?_
 refine l_tassert (v' := .tuple #[.agg #[.int .i64 0, .int .i64 0], .bool false]) rfl rfl rfl (fun _ => by kernel_rfl) ?_
 refine Zm ?_
 refine Zx (Zx ?_)
 refine Z0X H0 ta235 rfl rfl (fun b0_5 w51 H51 => ?_)
 refine Z0m H51 .head (.zero (.zero .nil)) rfl tz235 rfl rfl ZC (fun w52 H52 => ?_)
 refine Zg (Z01 ?_)
 refine e_thenS ?_
 refine s_codeX fun QX hQX => ?_
 refine Zk [0, 1, 2, 3, 4] ?_
 refine Z03 (Z00 (Zm ?_))
 refine Z0j (s := 10) (v' := .bool false) rfl (by rfl) ?_
 refine Z01 (Z02 ?_)
 refine Zk [0, 1, 2, 3, 10] ?_
 refine Z0Q rfl rfl ?_
 refine Z0a ?_
 subst hQX
 refine e_doneS0 results157 rfl ?_
 have H56 := St.del (.tail (.tail (.tail .head))) (St.front3 (St.front3 (St.front3 H52)))
 exact ⟨⟨rfl, rfl⟩, H56.transS⟩
theorem maySc (s : Int) (w : World) :
  Z0f P 158 [.int .i64 s] w fun r w' => r = .bool (decide (0 ≤ s ∧ s ≤ 18)) ∧ w = w' := by
 refine Z0o func158 rfl ntmps158 rfl ?_
 refine Z03 (Z00 (Zg (Z01 (Z02 ?_))))
 refine Zk [0] ?_
 refine Z03 (Z00 (Zm ?_))
 refine Zh ?_
 refine Zm ?_
 apply Z47 2 [] rfl rfl (.cons rfl .nil) rfl rfl (fun _ => rfl) rfl rfl rfl
 ·intro hg1_3
  refine Zm ?_
  refine Zf ?_
  refine Z01 ?_
  exact Z0O rfl (.cons rfl (ZT hg1_3) .nil)
 refine Zg (Z01 (Z02 ?_))
 refine Zk [2] ?_
 refine Z0i ?_
 refine Z0e results158 rfl ?_
 refine ⟨_, rfl, ?_⟩
 exact ⟨rfl, rfl⟩
def PSx (t : L8) (s : Nat) (w : World) (r : Value) (w' : World) : Prop := ∃ b p e : Int, r = .tuple #[.int .u64 b, .int .i64 p, .int .i64 e] ∧ u64I b ∧ i64I e ∧ (t.length ≤ 1024 → Z6X t s → b = scV t s ∧ e = 0) ∧ Grow w w' []
theorem env_in {k s : Nat} {x v : Value} {r : Env} (h : Env.get ((k, x) :: r) s = some v) : (s = k ∧ v = x) ∨ Env.get r s = some v := by
 unfold Env.get at h
 cases e : Nat.beq k s with
 | true => rw [e] at h; simp only [cond_true] at h; exact .inl ⟨(Nat.eq_of_beq_eq_true e).symm, (Option.some.inj h).symm⟩
 | false => rw [e] at h; exact .inr h
theorem ps_res {w : World} {tmps : Array Value} {p0 p1 p2 : Nat} {a b c : Value} (h0 : tmps[4]? = some (.pointer (some ⟨p0, 0, none⟩))) (h1 : tmps[5]? = some (.pointer (some ⟨p1, 0, none⟩))) (h2 : tmps[6]? = some (.pointer (some ⟨p2, 0, none⟩)))
  (k0 : (As.blk p0 24 [a]).ok w) (k1 : (As.blk p1 3 [b]).ok w) (k2 : (As.blk p2 39 [c]).ok w) : (results Tryz.f83 tmps).run P w = .ok (.tuple #[a, b, c]) w := by
 have hf : Fits tmps.size [(4, .pointer (some ⟨p0, 0, none⟩)), (5, .pointer (some ⟨p1, 0, none⟩)), (6, .pointer (some ⟨p2, 0, none⟩))] ({ tmps := tmps, defers := [] } : Act) := by
  refine ⟨rfl, rfl, fun s v h => ?_⟩
  rcases env_in h with ⟨rfl, rfl⟩ | h
  ·exact h0
  rcases env_in h with ⟨rfl, rfl⟩ | h
  ·exact h1
  rcases env_in h with ⟨rfl, rfl⟩ | h
  ·exact h2
  cases h
 exact ResV.run hf (.cell rfl (Z1W underlying24 rfl (Z55 (o := 0) k0 rfl).1) (.cell rfl (Z1W underlying3 rfl (Z55 (o := 0) k1 rfl).1) (.cell rfl (Z1W underlying39 rfl (Z55 (o := 0) k2 rfl).1) .nil))) results83 (by simp)
abbrev psF (p0 p1 p2 : Nat) : List Deferred := [{ target := .fn (.func 157) #[.pointer (some ⟨p0, 0, none⟩), .pointer (some ⟨p1, 0, none⟩), .pointer (some ⟨p2, 0, none⟩)], args := #[] }]
theorem ps_panic {w0 w : World} {σ : List As} {tmps : Array Value} {p0 p1 p2 : Nat} {a b c : Value} {pl el : Int} {R : Ending → World → Prop} (h0 : tmps[4]? = some (.pointer (some ⟨p0, 0, none⟩))) (h1 : tmps[5]? = some (.pointer (some ⟨p1, 0, none⟩))) (h2 : tmps[6]? = some (.pointer (some ⟨p2, 0, none⟩)))
  (hw : St w0 w0.heap.size Z0J ([As.blk p0 24 [a], As.blk p1 3 [b], As.blk p2 39 [c]] ++ σ) w) (hR : ∀ w', Grow w0 w' [] → R (.returned (.tuple #[.int .u64 0, .int .i64 pl, .int .i64 el])) w') :
  Leaves P Tryz.f83 tmps R (psF p0 p1 p2) (.panicking [{ v := .iface 235 (.agg #[.int .i64 pl, .int .i64 el]), recovered := false }]) w := by
 refine leaves_cons (f := 157) (args := #[.pointer (some ⟨p0, 0, none⟩), .pointer (some ⟨p1, 0, none⟩), .pointer (some ⟨p2, 0, none⟩)]) (by simp) (by simp [invoke, go_sem]) ((catchB p0 p1 p2 a b c pl el [] w (St.rows hw)).mono ?_)
 rintro e u' w' ⟨⟨rfl, rfl⟩, ht⟩
 have hw' := ht _ _ _ _ hw
 simp only [Zca, Zna] at hw'
 have q := ps_res h0 h1 h2 (hw'.ok (.head _)) (hw'.ok (.tail _ (.head _))) (hw'.ok (.tail _ (.tail _ (.head _))))
 exact ⟨_, q, hR w' (St.grows ⟨hw'.ext, hw'.base, trivial⟩)⟩
theorem ps_ret {w0 w : World} {σ : List As} {tmps : Array Value} {p0 p1 p2 : Nat} {a b c : Value} {R : Ending → World → Prop} (h0 : tmps[4]? = some (.pointer (some ⟨p0, 0, none⟩))) (h1 : tmps[5]? = some (.pointer (some ⟨p1, 0, none⟩))) (h2 : tmps[6]? = some (.pointer (some ⟨p2, 0, none⟩)))
  (hw : St w0 w0.heap.size Z0J ([As.blk p0 24 [a], As.blk p1 3 [b], As.blk p2 39 [c]] ++ σ) w) (hR : ∀ w', Grow w0 w' [] → R (.returned (.tuple #[a, b, c])) w') :
  Leaves P Tryz.f83 tmps R (psF p0 p1 p2) .returning w := by
 refine leaves_cons (f := 157) (args := #[.pointer (some ⟨p0, 0, none⟩), .pointer (some ⟨p1, 0, none⟩), .pointer (some ⟨p2, 0, none⟩)]) (by simp) (by simp [invoke, go_sem]) ((catchI p0 p1 p2 a b c 0 0 [] w (St.rows hw)).mono ?_)
 rintro e u' w' ⟨⟨rfl, rfl⟩, ht⟩
 have hw' := ht _ _ _ _ hw
 simp only [Zca, Zna] at hw'
 have q := ps_res h0 h1 h2 (hw'.ok (.head _)) (hw'.ok (.tail _ (.head _))) (hw'.ok (.tail _ (.tail _ (.head _))))
 exact ⟨_, q, hR w' (St.grows ⟨hw'.ext, hw'.base, trivial⟩)⟩
theorem ps_al (w : World) (n : Nat) (E : TypeId) (cs : List Value) (h : n = w.heap.size) : (As.blk n E cs).ok (w.alloc (.cells cs.toArray E)) := by
 subst h
 show (w.heap.push _)[w.heap.size]? = _
 simp
theorem ps_st3 (w : World) : St w w.heap.size Z0J [As.blk (w.heap.size + 1 + 1) 39 [.int .i64 0], As.blk (w.heap.size + 1) 3 [.int .i64 0], As.blk w.heap.size 24 [.int .u64 0]] (((w.alloc (.cells #[.int .u64 0] 24)).alloc (.cells #[.int .i64 0] 3)).alloc (.cells #[.int .i64 0] 39)) := by
 refine St.new (St.new (St.new (St.start w) _ _ (ps_al _ _ _ _ rfl) ?_) _ _ (ps_al _ _ _ _ ?_) ?_) _ _ (ps_al _ _ _ _ ?_) ?_
 all_goals first | (simp; done) | (intro k hk; exact hk.trans (by simp))
theorem ps_st (v : Value) (w : World) : St w w.heap.size Z0J [As.blk (w.heap.size + 1 + 1 + 1) 239 [v, .int .i64 0], As.blk (w.heap.size + 1 + 1) 39 [.int .i64 0], As.blk (w.heap.size + 1) 3 [.int .i64 0], As.blk w.heap.size 24 [.int .u64 0]] ((((w.alloc (.cells #[.int .u64 0] 24)).alloc (.cells #[.int .i64 0] 3)).alloc (.cells #[.int .i64 0] 39)).alloc (.cells #[v, .int .i64 0] 239)) := by
 refine St.new (ps_st3 w) _ _ (ps_al _ _ _ _ ?_) ?_
 all_goals first | (simp; done) | (intro k hk; exact hk.trans (by simp))
theorem blk_run {w0 w : World} {B : Nat} {M : Nat → Prop} {σ σ' : List As} {b o : Nat} {E t : TypeId} {cs cs' : List Value} {x : Value} (hw : St w0 B M σ w) (u : Upd σ (As.blk b E cs) (As.blk b E cs') σ') (hs : Z1F cs o x cs')
  (hsz : (P.info? t).map (·.size) = some 1) (h1 : x.oneCell' = true) : ∃ w', (storeVar t ⟨b, o, none⟩ x).run P w = .ok () w' ∧ St w0 B M σ' w' := by
 have hb : w.heap[b]? = some (.cells cs.toArray E (0, 0)) := hw.ok u.mem
 obtain ⟨rfl, ho⟩ := hs.eq
 have hcell : w.cell? ⟨b, o, none⟩ = some cs[o] := by
  rw [cell_of_row w b _ cs.toArray E (0, 0) hb]; simp [ho]
 have hfr : w.frozen? ⟨b, o, none⟩ = false := by simp [World.frozen?, hb]
 refine ⟨_, Z2C (P := P) hsz hcell hfr h1, hw.upd u ⟨rfl, rfl, rfl, by simp [World.setCell], fun k hk hm => Below.heap_setCell _ _ _ _ (fun e => hm (by subst e; rfl))⟩ ?_ ?_⟩
 ·show (w.setCell ⟨b, o, none⟩ x).heap[b]? = _
  simp [World.setCell, Array.getElem?_modify, hb]
 intro k hk
 have : k = b := hk
 subst this
 exact ⟨.inl rfl, by simpa [World.setCell] using (Array.getElem?_eq_some_iff.1 hb).1⟩
theorem wl_unit {ops : Array Oper} {rest : List Oper} {Q : Post} {a : Act} {w w' : World} {o : Oper} (hg : o.guard = none) (hd : o.dst = none) (h : (execOp a.eval o).run P w = .ok .skip w') (n : wpList P ops Q rest a w') : wpList P ops Q (o :: rest) a w := by
 unfold wpList
 rw [if_pos (by simp [Region.wanted, hg])]
 refine .inl ?_
 unfold Oper.wp
 rw [h, Oper.upon_skip, hd]
 exact n
theorem sc_bd {t : L8} {s : Nat} (hg : Z6X t s) : u64I (scV t s) := by
 have h := hg.2.2.2
 have h0 : (0 : Int) ≤ pv (Z6w t s) := (Z50 _ _ rfl (all_dig t s)).1
 unfold scV
 split
 ·exact Z5E _
 exact ⟨ZO, ZO⟩
theorem ParseSx (t : L8) (s : Nat) (v : Value) (hs : s ≤ 18) (w : World) (hv : IB w v t) : Z0f P 83 [.int .i64 (s : Int), v] w (PSx t s w) := by
 obtain ⟨A, c, rfl, hc, hsl⟩ := hv
 have hl : (bys t).length = t.length := by simp [bys]
 rw [hl] at hc ⊢
 have hmf : ∀ (fn : Fn) (first cap : Array Value) (w : World), (Instr.makeFunc fn first cap).run P w = .ok (.func fn first cap) w := fun _ _ _ _ => rfl
 have hmay : ∀ w : World, Calls P 158 #[.int .i64 (s : Int)] w fun e w' => e = .returned (.bool true) ∧ w' = w := fun w => Calls.mono (maySc (s : Int) w) fun e w' ⟨v, h1, h2, h3⟩ => by
  subst h1 h2
  rw [decide_eq_true ZO]
  exact ⟨rfl, h3.symm⟩
 have hpn : ∀ (v : Value) (w : World), (Instr.panic (.iface 235 v)).run P w = .halt (.panic (.iface 235 v)) w := fun _ _ => rfl
 unfold Z0f
 by_cases hlt : (1024 : Int) < (t.length : Int)
 ·go_enter_defers func83, ntmps83
  go_wp2_with (first | (go_at_call 158; refine (hmay _).mono ?_; rintro e w' ⟨rfl, rfl⟩))
  have hw := ps_st3 w
  exact ps_panic rfl rfl rfl (St.front2 (St.front1 hw)) fun w' hG => ⟨_, rfl, _, _, _, rfl, ZO, ZO, fun h => by omega, hG⟩
 go_enter_defers func83, ntmps83
 go_wp2_with (first | (go_at_call 158; refine (hmay _).mono ?_; rintro e w' ⟨rfl, rfl⟩))
 have hw := ps_st (.slice A t.length c) w
 refine Calls.mono (readScl _ (.slice A t.length c) t ZO s hs _ (St.rows (τ := [As.blk (w.heap.size + 1 + 1 + 1) 239 [.slice A t.length c, .int .i64 0]]) hw) ?_) ?_
 ·intro w1 h1
  refine ⟨A, c, by rw [hl], by rw [hl]; exact hc, ?_⟩
  exact (Z6f (R := fun w1 => Sl w1 A (bys t)) (τ := [As.blk (w.heap.size + 1 + 1 + 1) 239 [.slice A t.length c, .int .i64 0]]) hw (fun w1 h => (hsl.mono fun k hk => h k hk (fun e => e))) w1 h1)
 rintro e w' (⟨r, rfl, x, rfl, hg, ht⟩ | ⟨r, rfl, p, e, x, rfl, hp, he, hg, ht⟩)
 ·have H2 := ht _ _ _ _ hw
  simp only [Zca, Zna] at H2
  obtain ⟨w3, ho3, H3⟩ := blk_run (t := 24) (x := .int .u64 (scV t s)) H2 (.tail (.tail (.tail .head))) .zero rfl rfl
  obtain ⟨w4, ho4, H4⟩ := blk_run (t := 3) (x := .int .i64 0) H3 (.tail (.tail .head)) .zero rfl rfl
  obtain ⟨w5, ho5, H5⟩ := blk_run (t := 39) (x := .int .i64 0) H4 (.tail .head) .zero rfl rfl
  rename_i hK
  refine hK _ _ ?_
  refine wl_unit rfl rfl (w' := w3) (by simp [execOp, Act.eval, Instr.storeAt, Instr.sureAddr, ho3]) ?_
  refine wl_unit rfl rfl (w' := w4) (by simp [execOp, Act.eval, Instr.storeAt, Instr.sureAddr, ho4]) ?_
  refine wl_unit rfl rfl (w' := w5) (by simp [execOp, Act.eval, Instr.storeAt, Instr.sureAddr, ho5]) ?_
  go_wp2
  exact ps_ret rfl rfl rfl (St.front3 (St.front2 (St.front1 H5))) fun w' hG => ⟨_, rfl, _, _, _, rfl, sc_bd hg, ZO, fun _ _ => ⟨rfl, rfl⟩, hG⟩
 have H2 := ht _ _ _ _ hw
 simp only [Zca, Zna] at H2
 exact ps_panic rfl rfl rfl (St.front3 (St.front2 (St.front1 H2))) fun w' hG => ⟨_, rfl, _, _, _, rfl, ZO, he, fun _ h => absurd h hg, hG⟩
end Go.Proofs.YtgjgahmhoflgcaaGreatDoor.W
