/- the document's gate: New -/
import Derived.Test.YtgfkagaacdblbaaGreatZg
set_option linter.unusedVariables false
set_option linter.unusedSimpArgs false
set_option maxRecDepth 10000
namespace Go.Proofs.YtgfkagaacdblbaaGreat.W
open Go.Vc Go.RowKit Tryz
section
variable {P : Program} {N : Nat} {ρ : Env} {w w0 : World} {ops : Array Oper} {rest : List Oper} {d : Nat} {ty : TypeId} {pos : String} {af : Array Edge} {g : Option (Nat × Bool)} {B : Nat} {M : Nat → Prop} {σ : List As}
theorem l_lit5 {Q : Post} {t e : TypeId} {x : Operand} {y0 y1 y2 y3 y4 z0 z1 z2 z3 z4 : Value} {bytes : Nat} (hw : St w0 B M σ w) (hg : Z0t ops ρ g = true) (hN : Nat.blt d N = true) (hT : P.underlying t = some (.slice e)) (hi : (P.info? e).map (fun i => (i.zero, i.size, i.bytes)) = some (some (.agg #[z0, z1, z2, z3, z4]), 5, bytes))
  (hz : (Value.agg #[z0, z1, z2, z3, z4]).cells = #[z0, z1, z2, z3, z4]) (hx : Z0g ρ x = some (.agg #[y0, y1, y2, y3, y4])) (hc : (Value.agg #[y0, y1, y2, y3, y4]).cells = #[y0, y1, y2, y3, y4])
  (n : ∀ b w', St w0 B M (As.blk b e [y0, y1, y2, y3, y4] :: σ) w' → RunL P N ops ⟨false, Q⟩ rest ((d, .slice (some ⟨b, 0, none⟩) 1 1) :: ρ) w') : RunL P N ops ⟨false, Q⟩ (⟨some d, .buildSlice t 1 #[(0, x)], ty, pos, af, g⟩ :: rest) ρ w := by
 obtain ⟨i, hi, h2, h3, h4⟩ := info_parts hi
 refine Z2k (fun h => by cases h) hg rfl hN (fun a ha => ?_) (n w.heap.size (w.alloc (.cells #[y0, y1, y2, y3, y4] e)) (hw.new _ _ (heap_alloc_new w _) fun k hk => hk))
 have hr : (Instr.buildSlice t 1 #[(0, .agg #[y0, y1, y2, y3, y4])]).run P w = .ok (.slice (some ⟨w.heap.size, 0, none⟩) 1 1) (w.alloc (.cells #[y0, y1, y2, y3, y4] e)) := by
  simp [Instr.buildSlice, run_underlying hT, sizeOf, typeInfo, hi, h2, h3, zeroValue, hz, Instr.fill, hc, newRow, Array.range, List.range]
  generalize i.size = m at h3 ⊢
  subst h3
  refine congrArg (fun z => w.alloc (Obj.cells z e)) (Array.ext (by simp) fun i h1 h2 => ?_)
  have : i = 0 ∨ i = 1 ∨ i = 2 ∨ i = 3 ∨ i = 4 := by simp at h2; omega
  rcases this with rfl | rfl | rfl | rfl | rfl <;> simp
 simp only [execOp]
 simp [ha.eval hx, hr]
end
def GD0 : GDm := ⟨nilV, [], List.replicate 41 ⟨0, 0, false⟩, -1⟩
abbrev addZ (Z : GDm) (v : Value) (m : GDh) : GDm := { Z with vh := v, hs := Z.hs ++ [m] }
abbrev newZ (l : List Int) (va : Value) : GDh := ⟨newH l, va, nilV⟩
structure NzOk (ls : List (List Int)) (i : Nat) (Z : GDm) : Prop where
 hs : Z.hs.map (·.h) = (ls.take i).map newH
 sg : Z.sg = List.replicate 41 ⟨0, 0, false⟩
 la : Z.la = -1
 len : Z.hs.length = i
theorem NzOk.abs {ls : List (List Int)} {Z : GDm} (h : NzOk ls ls.length Z) : Z.abs = newG ls := by
 unfold GDm.abs newG
 rw [h.hs, h.sg, h.la, List.take_length]
 show GW.mk _ _ (0 % _) = _
 rw [Nat.zero_mod]
theorem NzOk.snoc {ls : List (List Int)} {i : Nat} {Z : GDm} {l : List Int} {v va : Value} (h : NzOk ls i Z) (hl : ls[i]? = some l) : NzOk ls (i + 1) (addZ Z v (newZ l va)) := by
 refine ⟨?_, h.sg, h.la, by simp [h.len]⟩
 show (Z.hs ++ [_]).map _ = _
 rw [List.map_append, h.hs, List.take_add_one, hl, List.map_append]
 rfl
theorem restZ_snoc {Z : GDm} {v : Value} {m : GDh} : (Z3A m ++ Z2m Z).Perm (Z2m (addZ Z v m)) := by
 unfold Z2m
 show List.Perm _ (((Z.hs ++ [m]).mapIdx fun _ m => Z3A m).flatten)
 rw [List.mapIdx_append, List.flatten_append]
 simp only [List.mapIdx_cons, List.mapIdx_nil, List.flatten_cons, List.flatten_nil, List.append_nil]
 exact List.perm_append_comm
theorem zrow_new (l : List Int) (va : Value) {x : Int} (hx : x = if l.length = 0 then 4 else 1) : zrow (newZ l va) = zr va x 0 (-1) nilV := by
 unfold zrow segV
 rw [if_neg (by show ¬ ((if l.length = 0 then (4 : Int) else 1) = 2 ∨ (if l.length = 0 then (4 : Int) else 1) = 3); split <;> omega), hx]
 rfl
theorem zw_new {w0 w : World} {B : Nat} {M : Nat → Prop} {σ : List As} {rb : Nat} {Z : GDm} {v va : Value} {l : List Int} {x : Int} (hx : x = if l.length = 0 then 4 else 1) (h : St w0 B M (As.ri 3 .i64 va l :: As.sep (Z2m Z) :: As.blk rb 80 (zC { Z with vh := v }) :: As.rk 82 5 v (Z.hs.map zrow ++ [zr va x 0 (-1) nilV]) :: σ) w) : St w0 B M (zW rb (addZ Z v (newZ l va)) ++ σ) w := by
 have h1 := (St.nilk h 85 2).front1
 have h2 := Z29 (l := Z3A (newZ l va)) (τ' := Z2m Z) (restZ_snoc (v := v)) h1
 have h3 := St.perm ((List.perm_append_comm (l₁ := [As.sep (Z2m (addZ Z v (newZ l va)))]) (l₂ := [As.blk rb 80 (zC { Z with vh := v }), As.rk 82 5 v (Z.hs.map zrow ++ [zr va x 0 (-1) nilV])])).append_right σ) h2
 rw [← zrow_new l va hx] at h3
 refine h3.cast ?_
 show [_, As.rk _ 5 v (Z.hs.map zrow ++ [zrow (newZ l va)]), _] ++ σ = [_, As.rk _ 5 v ((Z.hs ++ [newZ l va]).map zrow), _] ++ σ
 rw [List.map_append]
 rfl
theorem NewR (v : Value) (vs : List Value) (ls : List (List Int)) (hvl : vs.length = ls.length) (hvb : vs.length ≤ 1099511627776) (hrg : ∀ l ∈ ls, Rg (-9223372036854775808) 9223372036854775807 l ∧ 0 ≤ l.length) (w : World) (hv : IV w v vs) (hvs : ∀ (j : Nat) (x : Value) (l : List Int), vs[j]? = some x → ls[j]? = some l → IV w x (ints .i64 l)) :
  Z0f P 6 [v] w fun r w' => ∃ rv e, r = .tuple #[rv, .int .i64 e] ∧ ((¬ okA ls ∧ rv = .pointer none ∧ e = 280 ∧ Grow w w' []) ∨ (okA ls ∧ e = 0 ∧ ∃ (b : Nat) (Z : GDm), rv = ptr b ∧ Z.abs = newG ls ∧ LaOk Z ∧ Grow w w' (zW b Z))) := by
 refine Z0o func6 rfl ntmps6 rfl ?_
 have H0 := St.start w
 refine Z03 (Z00 (Zg (Zg (Z01 (Z02 ?_)))))
 refine Zk [0] ?_
 refine Z03 (Z03 (Z00 (Zm ?_)))
 refine Z3L rfl rfl underlying22 rfl (by first | exact H0.iarg hv | assumption) ?_
 refine Zw ?_
 refine Z01 (Z02 ?_)
 refine Zk [0, 14] ?_
 (first | refine Z0c rfl ?_ ?_ | refine Z08 rfl ?_ ?_) <;> intro hc0
 ·refine Z03 (Z00 (Zg (Zg (Z01 (Z02 ?_)))))
  refine Zk [2, 3] ?_
  refine Z0i ?_
  refine Z07 ?_
  refine Z0P results6 rfl rfl ?_
  refine ⟨_, rfl, ?_⟩
  refine ⟨_, _, rfl, .inl ⟨fun h => by have := h.1; omega, rfl, rfl, H0.grows⟩⟩
 refine Z0a (Z02 ?_)
 refine Zk [0] ?_
 refine Z03 (Z03 (Z00 (Zg (Z01 (Z02 (Z0d ?_))))))
 refine Z0z (ι := Nat) (fun (i : Nat) => vs.length - i) (fun (i : Nat) (w' : World) => St w w.heap.size Z0J ([]) w' ∧ i ≤ vs.length ∧ ∀ l ∈ ls.take i, okR l) (fun (i : Nat) => [(4, .int .i64 (i : Int))]) [0] (0) ?_ (.cons rfl .nil) ?_ ?_
 ·exact ⟨H0, ZO, by simp⟩
 ·exact (.cons rfl ZN .nil)
 rintro i w1 ⟨H1, hi, hok⟩
 show RunC P _ _ _ (_ :: _) _
 refine Z03 (Z03 (Z00 (Zm (Zm ?_))))
 refine Z3L rfl rfl underlying22 rfl (by first | exact H1.iarg hv | assumption) ?_
 refine Zl ?_
 refine Z01 (Z02 ?_)
 refine Zk [0, 4, 18] ?_
 (first | refine Z0c rfl ?_ ?_ | refine Z08 rfl ?_ ?_) <;> intro hc1
 ·refine Z0a (Z02 ?_)
  refine Zk [0, 4] ?_
  refine Z03 (Z0d (Z03 (Z03 (Z00 ?_))))
  have hi1 : i < ls.length := by omega
  obtain ⟨x, hvj⟩ : ∃ x, vs[i]? = some x := ⟨_, List.getElem?_eq_getElem ZO⟩
  obtain ⟨l, hlj⟩ : ∃ l, ls[i]? = some l := ⟨_, List.getElem?_eq_getElem hi1⟩
  have hx := hvs i x l hvj hlj
  have hlm := List.mem_of_getElem? hlj
  obtain ⟨hRg, hlb⟩ := hrg l hlm
  refine Zm (Zm ?_)
  refine Z4k rfl rfl rfl rfl underlying22 tz34 underlying34 rfl rfl rfl (by first | exact H1.iarg hv | assumption) ZI hvj ?_ rfl
  refine Z0u rfl rfl underlying34 rfl (H1.iarg hx) ?_
  refine Zw ?_
  refine Z01 (Z02 ?_)
  refine Zk [0, 4, 26] ?_
  (first | refine Z0c rfl ?_ ?_ | refine Z08 rfl ?_ ?_) <;> intro hc2
  ·refine Z03 (Z00 (Zg (Zg (Z01 (Z02 ?_)))))
   refine Zk [2, 3] ?_
   refine Z0i ?_
   refine Z07 ?_
   refine Z0k ?_
   refine Z07 ?_
   refine Z07 ?_
   refine Z0k ?_
   refine Z07 ?_
   refine Z0P results6 rfl rfl ?_
   refine ⟨_, rfl, ?_⟩
   refine ⟨_, _, rfl, .inl ⟨fun h => by have := (h.2 l hlm).1; omega, rfl, rfl, H1.grows⟩⟩
  refine Z0a (Z02 ?_)
  refine Zk [0, 4] ?_
  refine Z03 (Z00 (Zg (Z01 (Z02 (Z0d ?_)))))
  refine Z0z (ι := Nat) (fun (k : Nat) => l.length - k) (fun (k : Nat) (w' : World) => St w w.heap.size Z0J ([]) w' ∧ k ≤ l.length ∧ ∀ q ∈ l.take k, -342 ≤ q ∧ q ≤ 308) (fun (k : Nat) => [(5, .int .i64 (k : Int))]) [0, 4] (0) ?_ (.cons rfl (.cons rfl .nil)) ?_ ?_
  ·exact ⟨H1, ZO, by simp⟩
  ·exact (.cons rfl ZN .nil)
  rintro k w2 ⟨H2, hk, hqs⟩
  show RunC P _ _ _ (_ :: _) _
  refine Z03 (Z03 (Z00 (Zm (Zm (Zm ?_)))))
  refine Z4k rfl rfl rfl rfl underlying22 tz34 underlying34 rfl rfl rfl (by first | exact H2.iarg hv | assumption) ZI hvj ?_ rfl
  refine Z0u rfl rfl underlying34 rfl (H2.iarg hx) ?_
  refine Zl ?_
  refine Z01 (Z02 ?_)
  refine Zk [0, 4, 5, 33] ?_
  (first | refine Z0c rfl ?_ ?_ | refine Z08 rfl ?_ ?_) <;> intro hc3
  ·refine Z0a (Z02 ?_)
   refine Zk [0, 4, 5] ?_
   refine Z03 (Z0d (Z03 (Z00 (Zm (Zm ?_)))))
   refine Z4k rfl rfl rfl rfl underlying22 tz34 underlying34 rfl rfl rfl (by first | exact H2.iarg hv | assumption) ZI hvj ?_ rfl
   refine Zm ?_
   refine Z0T (j := k) rfl rfl rfl rfl underlying34 tz3 underlying3 rfl rfl (H2.iarg hx) hRg rfl rfl ZI (fun hb11 => ?_)
   have hq0 := hRg.get (j := k) ZO
   have hkl : k < l.length := by omega
   refine Zp func30 (whereR (l.getD k 0) hq0 _) ?_
   refine Zm ?_
   refine Zx (Zx (Zx (Zg (Zg (Zg (Z01 (Z02 ?_)))))))
   refine Zk [0, 4, 5, 8] ?_
   refine Z03 (Z00 (Zm ?_))
   refine Zo ?_
   refine Z01 (Z02 ?_)
   refine Zk [0, 4, 5, 49] ?_
   (first | refine Z0c rfl ?_ ?_ | refine Z08 rfl ?_ ?_) <;> intro hc4
   ·refine Z03 (Z00 (Zg (Zg (Z01 (Z02 ?_)))))
    refine Zk [2, 3] ?_
    refine Z0i ?_
    refine Z0k ?_
    refine Z07 ?_
    refine Z07 ?_
    refine Z0k ?_
    refine Z0k ?_
    refine Z07 ?_
    refine Z07 ?_
    refine Z0k ?_
    refine Z07 ?_
    refine Z0P results6 rfl rfl ?_
    refine ⟨_, rfl, ?_⟩
    refine ⟨_, _, rfl, .inl ⟨fun h => by have := (h.2 l hlm).2 _ (show l.getD k 0 ∈ l by simp [List.getD, hkl]); rw [← Z3N] at this; exact hc4 this, rfl, rfl, H2.grows⟩⟩
   refine Z0a ?_
   refine Z0F ?_
   refine Z02 ?_
   refine Zk [0, 4, 5] ?_
   refine Z00 (Zm ?_)
   refine Z0y rfl rfl rfl rfl (Z0l ZO) ?_
   refine Zg (Z01 ?_)
   refine Z0p (i := (k)) (k + 1) ?_ ?_ (.cons rfl (.cons rfl .nil)) ?_
   ·first | omega | (simp; omega)
   ·exact ⟨H2, ZO, fun q hq => by
     rw [List.take_add_one, List.getElem?_eq_getElem hkl] at hq
     rcases List.mem_append.1 hq with h | h
     ·exact hqs q h
     have e : q = l.getD k 0 := by simpa [List.getD, hkl] using h
     rw [e, ← Z3N]
     omega⟩
   exact (.cons rfl ZN .nil)
  refine Z0H ?_
  refine Z06 ?_
  refine Z06 ?_
  refine Z0h ?_
  refine Z0F ?_
  refine Z02 ?_
  refine Zk [0, 4] ?_
  refine Z00 (Zm ?_)
  refine Z0y rfl rfl rfl rfl (Z0l ZO) ?_
  refine Zg (Z01 ?_)
  refine Z0p (i := (i)) (i + 1) ?_ ?_ (.cons rfl .nil) ?_
  ·first | omega | (simp; omega)
  ·refine ⟨H2, ZO, fun l2 hl2 => ?_⟩
   rw [List.take_add_one, hlj] at hl2
   rcases List.mem_append.1 hl2 with h | h
   ·exact hok l2 h
   have e : l2 = l := by simpa using h
   rw [e]
   exact ⟨ZO, fun q hq => hqs q (by rw [List.take_of_length_le ZO]; exact hq)⟩
  exact (.cons rfl ZN .nil)
 refine Z0H ?_
 refine Z06 ?_
 refine Z06 ?_
 refine Z0h ?_
 refine Z02 ?_
 refine Zk [0] ?_
 refine Z03 (Z00 ?_)
 have hall : ∀ l ∈ ls, okR l := fun l hl => hok l (by rw [List.take_of_length_le ZO]; exact hl)
 refine Z16 rfl rfl pl80 ta80 (.one rfl rfl ZR (.succ (.succ (.succ (.succ (.succ (.succ (.succ (.succ (.succ (.succ (.succ (.succ (.succ (.succ (.succ (.succ (.succ (.succ (.succ (.succ (.succ (.succ (.succ (.succ (.succ (.succ (.succ (.succ (.succ (.succ (.succ (.succ (.succ (.succ (.succ (.succ (.succ (.succ (.succ (.succ (.succ (.succ (.succ (.succ (.succ (.succ (.succ (.succ (.succ (.succ (.succ (.succ (.succ (.succ (.succ (.succ (.succ (.succ (.succ (.succ (.succ (.succ (.succ (.succ (.succ (.succ (.succ (.succ (.succ (.succ (.succ (.succ (.succ (.succ (.succ (.succ (.succ (.succ (.succ (.succ (.succ (.succ (.succ (.succ (.succ (.succ (.succ (.succ (.succ (.succ (.succ (.succ (.succ (.succ (.succ (.succ (.succ (.succ (.succ (.succ (.succ (.succ (.succ (.succ (.succ (.succ (.succ (.succ (.succ (.succ (.succ (.succ (.succ (.succ (.succ (.succ (.succ (.succ (.succ (.succ (.succ (.succ (.succ (.succ .zero)))))))))))))))))))))))))))))))))))))))))))))))))))))))))))))))))))))))))))))))))))))))))))))))))))))))))))))))))))))))))))) .nil) ?_
 refine l_box H1 rfl rfl rfl (fun b14_1 w3 H3 => ?_)
 refine Zg (Z01 (Z02 ?_))
 refine Zk [0, 9] ?_
 refine Z03 (Z03 (Z00 (Zg (Z01 (Z02 (Z0d ?_))))))
 refine Z0z (ι := Nat × GDm) (fun (z0 : Nat × GDm) => match z0 with | ⟨i, Z⟩ => vs.length - i) (fun (z0 : Nat × GDm) (w' : World) => match z0 with | ⟨i, Z⟩ => St w w.heap.size Z0J (zW b14_1 Z) w' ∧ i ≤ vs.length ∧ NzOk ls i Z) (fun (z0 : Nat × GDm) => match z0 with | ⟨i, Z⟩ => [(10, .int .i64 (i : Int))]) [0, 9] (0, GD0) ?_ (.cons rfl (.cons rfl .nil)) ?_ ?_
 ·exact ⟨St.perm (List.perm_append_comm (l₁ := [_, _]) (l₂ := [_])) (St.nilk (Z2P H3) 82 5), ZO, ⟨rfl, rfl, rfl, rfl⟩⟩
 ·exact (.cons rfl ZN .nil)
 rintro ⟨i, Z⟩ w4 ⟨H4, hi2, hN⟩
 show RunC P _ _ _ (_ :: _) _
 refine Z03 (Z03 (Z00 (Zm (Zm ?_))))
 refine Z3L rfl rfl underlying22 rfl (by first | exact H4.ibl mem0 | exact H4.ik ZA mem1 | exact H4.iarg hv | assumption) ?_
 refine Zl ?_
 refine Z01 (Z02 ?_)
 refine Zk [0, 9, 10, 55] ?_
 (first | refine Z0c rfl ?_ ?_ | refine Z08 rfl ?_ ?_) <;> intro hc5
 ·refine Z0a (Z02 ?_)
  refine Zk [0, 9, 10] ?_
  refine Z03 (Z0d (Z03 (Z00 ?_)))
  have hi1 : i < ls.length := by omega
  obtain ⟨x, hvj⟩ : ∃ x, vs[i]? = some x := ⟨_, List.getElem?_eq_getElem ZO⟩
  obtain ⟨l, hlj⟩ : ∃ l, ls[i]? = some l := ⟨_, List.getElem?_eq_getElem hi1⟩
  have hx := hvs i x l hvj hlj
  have hlm := List.mem_of_getElem? hlj
  obtain ⟨hRg, hlb⟩ := hrg l hlm
  have hl64 := (hall l hlm).1
  refine v_lit0 H4 rfl rfl underlying34 tz3 (fun v18_0 w5 H5 => ?_)
  refine Zm (Zm ?_)
  refine Z4k rfl rfl rfl rfl underlying22 tz34 underlying34 rfl rfl rfl (by first | exact H5.io mem0 | exact H5.ibl mem1 | exact H5.ik ZA mem2 | exact H5.iarg hv | assumption) ZI hvj ?_ rfl
  refine Z45 H5 rfl rfl underlying34 ti3 rfl rfl rfl (H5.iarg hx) (Z4K _ _) (by simp [ints]; omega) (by simp [ints]; omega) (fun v18_5 w6 H6 => ?_)
  have hva1 := Z1v (H6.ok mem0)
  refine Z16 rfl rfl pl82 ta82 (.one rfl rfl ZR .zero (.one rfl rfl ZR (.succ .zero) (.one rfl rfl ZR (.succ (.succ (.succ .zero))) .nil))) ?_
  refine Z0X H6 ta82 rfl rfl (fun b18_7 w7 H7 => ?_)
  refine Z0m H7 .head (.zero (.zero (.zero (.zero (.zero .nil))))) rfl tz82 rfl rfl ZC (fun w8 H8 => ?_)
  refine Z01 (Z02 ?_)
  refine Zk [0, 9, 10, 11] ?_
  refine Z1q (ι := Int) (fun (lx : Int) (w' : World) => St w w.heap.size Z0J ([As.blk b18_7 82 (zr v18_5 lx 0 (-1) nilV), As.ri 3 .i64 v18_5 l] ++ zW b14_1 Z) w' ∧ lx = if l.length = 0 then 4 else 1) (fun (lx : Int) => []) [0, 9, 10, 11] (.cons rfl (.cons rfl (.cons rfl (.cons rfl .nil)))) ?_ ?_
  ·refine Z03 (Z00 (Zm (Zm ?_)))
   refine Z4k rfl rfl rfl rfl underlying22 tz34 underlying34 rfl rfl rfl (by first | exact H8.ibl mem0 | exact H8.io mem1 | exact H8.ibl mem2 | exact H8.ik ZA mem3 | exact H8.iarg hv | assumption) ZI hvj ?_ rfl
   refine Z0u rfl rfl underlying34 rfl (H8.iarg hx) ?_
   refine Ze ?_
   refine Z01 (Z02 ?_)
   refine Zk [0, 9, 10, 11, 70] ?_
   (first | refine Z0c rfl ?_ ?_ | refine Z08 rfl ?_ ?_) <;> intro hc6
   ·refine Z00 (Z09 Z2y rfl rfl rfl ?_)
    refine Z0s H8 .head (by repeat (first | exact .zero | apply Z1F.succ)) rfl tz3 rfl rfl ZR (fun w9 H9 => ?_)
    refine Z01 ?_
    have H10 := St.frontL (l := [_, _, _, _]) H9
    simp only [Zca, Zna] at H10
    have H11 := St.frontL (l := [_, _, _, _]) H10
    simp only [Zca, Zna] at H11
    have H12 := St.frontL (l := [_, _, _, _]) H11
    simp only [Zca, Zna] at H12
    have H13 := St.frontL (l := [_, _, _, _]) H12
    simp only [Zca, Zna] at H13
    have H14 := St.frontL (l := [_, _, _, _]) H13
    simp only [Zca, Zna] at H14
    refine Z0w (4) ?_ (.cons rfl (.cons rfl (.cons rfl (.cons rfl .nil)))) ?_
    ·exact ⟨H14, (if_pos ZO).symm⟩
    exact .nil
   refine Z0a ?_
   have H15 := St.frontL (l := [_, _, _, _]) H8
   simp only [Zca, Zna] at H15
   have H16 := St.frontL (l := [_, _, _, _]) H15
   simp only [Zca, Zna] at H16
   have H17 := St.frontL (l := [_, _, _, _]) H16
   simp only [Zca, Zna] at H17
   have H18 := St.frontL (l := [_, _, _, _]) H17
   simp only [Zca, Zna] at H18
   have H19 := St.frontL (l := [_, _, _, _]) H18
   simp only [Zca, Zna] at H19
   refine Z0w (1) ?_ (.cons rfl (.cons rfl (.cons rfl (.cons rfl .nil)))) ?_
   ·exact ⟨H19, (if_neg ZO).symm⟩
   exact .nil
  rintro lx w20 ⟨H20, hlx⟩
  have H21 := H20.drewn
  have hva1 := Z1v (H21.ok mem1)
  refine Z1a (n := 11) [Zz,Zz,Zz,Zz,Zz,Zz,Zz,Zz,Zz,Zz,Zz] (fun wS => (As.blk b18_7 82 (zr v18_5 lx 0 (-1) nilV)).ok wS) ZK rfl rfl ?_
  apply Zu (L' := [Zy,Zz,Zz,Zz,Zz,Zz,Zz,Zz,Zz,Zz,Zz]) 0 (H21.ok mem0)
  ·intro wS sS
   refine Zm (Z01 ?_)
   exact Z04 rfl
  apply Zu (L' := [Zy,Zy,Zz,Zz,Zz,Zz,Zz,Zz,Zz,Zz,Zz]) 1 (H21.ok mem0)
  ·intro wS sS
   refine Zm (Z01 ?_)
   exact Z04 rfl
  refine Z0N (L' := [Zy,Zy,Zy,Zz,Zz,Zz,Zz,Zz,Zz,Zz,Zz]) 2 rfl ZK ZK ZK rfl rfl rfl (H21.ok mem0) rfl ?_
  apply Zu (L' := [Zy,Zy,Zy,Zy,Zz,Zz,Zz,Zz,Zz,Zz,Zz]) 3 (H21.ok mem0)
  ·intro wS sS
   refine Z09 Z24 rfl rfl rfl (Z01 ?_)
   exact Z04 rfl
  apply Zu (L' := [Zy,Zy,Zy,Zy,Zz,Zy,Zz,Zz,Zz,Zz,Zz]) 5 (H21.ok mem0)
  ·intro wS sS
   refine Z1b (Z0r sS) mem0 rfl rfl underlying82 rfl tz82 rfl (.take (.take (.take (.take (.take .nil))))) ?_
   refine Z01 ?_
   exact Z04 rfl
  refine Z2B (L' := [Zy,Zy,Zy,Zy,Zy,Zy,Zz,Zz,Zz,Zz,Zz]) (L'' := [Zy,Zy,Zy,Zy,Zz,Zy,Zy,Zz,Zz,Zz,Zz]) 4 6 ZK rfl rfl rfl rfl ?_ ?_
  ·refine Z05 (Z0r (H21.ok mem2)) mem0 rfl rfl underlying75 rfl rfl rfl ?_
   refine Z01 ?_
   refine Z0n (H21.ok mem0) ?_
   refine Z0v (L' := [Zy,Zy,Zy,Zy,Zy,Zy,Zy,Zz,Zz,Zz,Zz]) 6 ZK rfl rfl ?_
   refine l_lit5 H21 rfl rfl underlying75 ti82 rfl rfl rfl (fun b21_6 w22 H22 => ?_)
   refine Z01 ?_
   refine Z0n (H22.ok mem1) ?_
   refine Z0v (L' := [Zy,Zy,Zy,Zy,Zy,Zy,Zy,Zy,Zz,Zz,Zz]) 7 ZK rfl rfl ?_
   have H23 := St.frontL (l := [_, _, _, _]) H22
   simp only [Zca, Zna] at H23
   refine Z19 H23 rfl rfl underlying75 ti82 rfl rfl rfl rfl (Z1M (H23.ok mem1)) (zr1 hva1 rfl _ _ _) (by simp [hN.len]; omega) (by simp [hN.len]; omega) (fun v21_7 w24 H24 => ?_)
   refine Z01 ?_
   refine Z0n (H24.ok mem2) ?_
   refine Z0N (L' := [Zy,Zy,Zy,Zy,Zy,Zy,Zy,Zy,Zy,Zz,Zz]) 8 rfl ZK ZK ZK rfl rfl rfl (H24.ok mem2) rfl ?_
   apply Zu (L' := [Zy,Zy,Zy,Zy,Zy,Zy,Zy,Zy,Zy,Zy,Zz]) 9 (H24.ok mem2)
   ·intro wS sS
    refine Z09 Z24 rfl rfl rfl (Z01 ?_)
    exact Z04 rfl
   refine Z0v (L' := [Zy,Zy,Zy,Zy,Zy,Zy,Zy,Zy,Zy,Zy,Zy]) 10 ZK rfl rfl ?_
   have H25 := St.frontL (l := [_, _, _, _]) H24
   simp only [Zca, Zna] at H25
   refine Z0s H25 .head (show Z1F (zC Z) 0 v21_7 (zC { Z with vh := v21_7 }) from .zero) rfl tz75 rfl rfl (Z1v (H25.ok mem1)) (fun w26 H26 => ?_)
   refine Z01 ?_
   refine Z0n (H26.ok mem3) ?_
   refine Z0B ZK ?_
   refine Z0F ?_
   refine Z02 ?_
   refine Zk [0, 9, 10] ?_
   refine Z00 ?_
   have H27 := St.frontL (l := [_]) H26
   simp only [Zca, Zna] at H27
   have H28 := St.frontL (l := [_]) H27
   simp only [Zca, Zna] at H28
   have H29 := St.frontL (l := [_, _, _, _, _]) H28
   simp only [Zca, Zna] at H29
   have H30 := St.frontL (l := [_, _, _, _, _]) H29
   simp only [Zca, Zna] at H30
   refine Zm ?_
   refine Z0y rfl rfl rfl rfl (Z0l ZO) ?_
   refine Zg (Z01 ?_)
   have H32 := St.del (.tail (.tail (.tail (.tail .head)))) (St.del (.tail (.tail (.tail (.tail (.tail .head))))) H30)
   refine Z0p (i := (i, Z)) (i + 1, addZ Z v21_7 (newZ l v18_5)) ?_ ?_ (.cons rfl (.cons rfl .nil)) ?_
   ·first | omega | (simp; omega)
   ·exact ⟨zw_new (σ := []) hlx H32, ZO, hN.snoc hlj⟩
   exact (.cons rfl ZN .nil)
  refine l_lit5 H21 rfl rfl underlying75 ti82 rfl rfl rfl (fun b21_6 w33 H33 => ?_)
  refine Z01 ?_
  refine Z0n (H33.ok mem1) ?_
  refine Z0v (L' := [Zy,Zy,Zy,Zy,Zy,Zy,Zy,Zz,Zz,Zz,Zz]) 4 ZK rfl rfl ?_
  refine Z05 (Z0r (H33.ok mem3)) mem0 rfl rfl underlying75 rfl rfl rfl ?_
  refine Z01 ?_
  refine Z0n (H33.ok mem1) ?_
  refine Z0v (L' := [Zy,Zy,Zy,Zy,Zy,Zy,Zy,Zy,Zz,Zz,Zz]) 7 ZK rfl rfl ?_
  have H34 := St.frontL (l := [_, _, _, _]) H33
  simp only [Zca, Zna] at H34
  refine Z19 H34 rfl rfl underlying75 ti82 rfl rfl rfl rfl (Z1M (H34.ok mem1)) (zr1 hva1 rfl _ _ _) (by simp [hN.len]; omega) (by simp [hN.len]; omega) (fun v21_7 w35 H35 => ?_)
  refine Z01 ?_
  refine Z0n (H35.ok mem2) ?_
  refine Z0N (L' := [Zy,Zy,Zy,Zy,Zy,Zy,Zy,Zy,Zy,Zz,Zz]) 8 rfl ZK ZK ZK rfl rfl rfl (H35.ok mem2) rfl ?_
  apply Zu (L' := [Zy,Zy,Zy,Zy,Zy,Zy,Zy,Zy,Zy,Zy,Zz]) 9 (H35.ok mem2)
  ·intro wS sS
   refine Z09 Z24 rfl rfl rfl (Z01 ?_)
   exact Z04 rfl
  refine Z0v (L' := [Zy,Zy,Zy,Zy,Zy,Zy,Zy,Zy,Zy,Zy,Zy]) 10 ZK rfl rfl ?_
  have H36 := St.frontL (l := [_, _, _, _]) H35
  simp only [Zca, Zna] at H36
  refine Z0s H36 .head (show Z1F (zC Z) 0 v21_7 (zC { Z with vh := v21_7 }) from .zero) rfl tz75 rfl rfl (Z1v (H36.ok mem1)) (fun w37 H37 => ?_)
  refine Z01 ?_
  refine Z0n (H37.ok mem3) ?_
  refine Z0B ZK ?_
  refine Z0F ?_
  refine Z02 ?_
  refine Zk [0, 9, 10] ?_
  refine Z00 ?_
  have H38 := St.frontL (l := [_]) H37
  simp only [Zca, Zna] at H38
  have H39 := St.frontL (l := [_]) H38
  simp only [Zca, Zna] at H39
  have H40 := St.frontL (l := [_, _, _, _, _]) H39
  simp only [Zca, Zna] at H40
  have H41 := St.frontL (l := [_, _, _, _, _]) H40
  simp only [Zca, Zna] at H41
  refine Zm ?_
  refine Z0y rfl rfl rfl rfl (Z0l ZO) ?_
  refine Zg (Z01 ?_)
  have H43 := St.del (.tail (.tail (.tail (.tail .head)))) (St.del (.tail (.tail (.tail (.tail (.tail .head))))) H41)
  refine Z0p (i := (i, Z)) (i + 1, addZ Z v21_7 (newZ l v18_5)) ?_ ?_ (.cons rfl (.cons rfl .nil)) ?_
  ·first | omega | (simp; omega)
  ·exact ⟨zw_new (σ := []) hlx H43, ZO, hN.snoc hlj⟩
  exact (.cons rfl ZN .nil)
 refine Z0H ?_
 refine Z06 ?_
 refine Z06 ?_
 refine Z0h ?_
 refine Z02 ?_
 refine Zk [9] ?_
 refine Z03 (Z00 (Zm (Zg (Zg (Z01 (Z02 ?_))))))
 refine Zk [2, 3] ?_
 refine Z0i ?_
 refine Z0P results6 rfl rfl ?_
 refine ⟨_, rfl, ?_⟩
 have e : i = ls.length := by omega
 subst e
 exact ⟨_, _, rfl, .inr ⟨⟨ZO, hall⟩, rfl, b14_1, Z, rfl, hN.abs, by unfold LaOk; rw [hN.la]; omega, H4.grows⟩⟩
end Go.Proofs.YtgfkagaacdblbaaGreat.W
