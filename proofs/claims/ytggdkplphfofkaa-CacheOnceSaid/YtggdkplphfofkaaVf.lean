/- A row that was appended to, beside its old reading; many rows of any kind as one. -/
import Derived.Test.YtggdkplphfofkaaVb
set_option linter.unusedVariables false
set_option linter.unusedSimpArgs false
namespace Go.Vc
open Go.RowKit
theorem slice_one {w : World} {v : Value} {cs : List Value} (h : IV w v cs) : v.oneCell' = true := by
  obtain ⟨A, c, e, _⟩ := h
  rw [e]
  rfl
/-- v reads as cs, v' is an owned row cs'; they lie at one place or in two blocks -/
def As.both (E : TypeId) (v : Value) (cs : List Value) (v' : Value) (cs' : List Value) : As :=
  ⟨fun k => v.ownBlock = some k ∨ v'.ownBlock = some k,
   fun w => IV w v cs ∧ Own w E 1 v' cs'.length cs' ∧ ((∃ A c c', v = .slice A cs.length c ∧ v' = .slice A cs'.length c' ∧ cs.length ≤ c ∧ ∃ t, cs' = cs ++ t) ∨ ∀ k, v.ownBlock = some k → v'.ownBlock ≠ some k),
   fun w w' h hw => ⟨(As.iv v cs).loc w w' (fun k hk => h k (.inl hk)) hw.1, (As.own E 1 v' cs'.length cs').loc w w' (fun k hk => h k (.inr hk)) hw.2.1, hw.2.2⟩⟩
section
variable {w0 w w' : World} {B : Nat} {M : Nat → Prop} {σ σ' : List As} {E : TypeId} {v v' : Value} {cs cs' : List Value}
theorem St.toBoth (hw : St w0 B M (As.ro E v cs :: σ) w) : St w0 B M (As.both E v cs v cs :: σ) w :=
  hw.as .head (fun k hk => hk.elim id id) fun w h => ⟨h.iv, h, .inl (by
    obtain ⟨A, c, e, hc, _⟩ := h.iv
    exact ⟨A, c, c, e, e, hc, [], by simp⟩)⟩
theorem both_iv (hw : St w0 B M σ w) (hm : As.both E v cs v' cs' ∈ σ) : IV w v cs := (hw.ok hm).1
theorem both_iv' (hw : St w0 B M σ w) (hm : As.both E v cs v' cs' ∈ σ) : IV w v' cs' := (hw.ok hm).2.1.iv
end
section
variable {P : Program} {N : Nat} {ops : Array Oper} {Q : PostM} {ρ : Env} {w w0 : World} {rest : List Oper} {d : Nat} {ty : TypeId} {pos : String} {af : Array Edge} {g : Option (Nat × Bool)}
  {B : Nat} {M : Nat → Prop} {σ σ' : List As} {E : TypeId} {cs cs' : List Value} {v v' : Value}
/-- append onto the second of two -/
theorem v_append_both {Q : Post} {s x : Operand} {t e : TypeId} {z y : Value} {bytes : Nat} {news : List Value} (hw : St w0 B M (As.both e v cs v' cs' :: σ) w) (hg : wantE ops ρ g = true) (hN : Nat.blt d N = true) (ht : P.underlying t = some (.slice e)) (hi : (P.info? e).map (fun i => (i.zero, i.size, i.bytes)) = some (some z, 1, bytes)) (hzs : z.cells.size = 1)
    (hs : evalE ρ s = some v') (hx : evalE ρ x = some y) (hy : IV w y news) (h1 : ∀ u ∈ news, u.oneCell' = true) (hbytes : (cs'.length + news.length) * bytes ≤ 140737488355328) (h63 : cs'.length + news.length ≤ 9223372036854775807)
    (nx : ∀ v'' w', St w0 B M (As.both e v cs v'' (cs' ++ news) :: σ) w' → RunL P N ops ⟨false, Q⟩ rest ((d, v'') :: ρ) w') : RunL P N ops ⟨false, Q⟩ (⟨some d, .call ⟨.builtin .append, #[s, x], #[t, t]⟩, ty, pos, af, g⟩ :: rest) ρ w := by
  obtain ⟨A, c, rfl, hc, hsl⟩ := hy
  obtain ⟨hiv, hown, hrel⟩ := hw.ok mem0
  obtain ⟨i, hi, h2, h3, h4⟩ := info_parts hi
  have hlt : ∀ k, v.ownBlock = some k → k < w.heap.size := fun k hk => (hw.sep.lt mem0 k (.inl hk)).2
  have hA : A = none → news.length = 0 := fun h => by
    cases hn : news with
    | nil => rfl
    | cons a l =>
      obtain ⟨ad, e, _⟩ := hsl 0 a (by rw [hn]; rfl)
      rw [h] at e; cases e
  obtain ⟨v'', w', hr, ho, hx', hb, hor⟩ := run_append_Own2 (P := P) t ty e i z bytes ht hi h2 h3 h4 hzs hown A news.length c (by simp) hA hsl h1 hbytes h63
  have ho' : Own w' e 1 v'' (cs' ++ news).length (cs' ++ news) := by rw [List.length_append]; exact ho
  refine l_valw (fun h => by cases h) hg rfl hN (fun a ha => by simp [execOp, ha.eval hs, ha.eval hx, resolve, invoke, builtin, hr]) (nx v'' w' ?_)
  refine hw.upd .head (hx'.mono (Nat.le_refl _) fun k _ hk => .inr hk) ⟨?_, ho', ?_⟩ fun k hk => ?_
  · rcases hor with ⟨hsame, _⟩ | ⟨g, off, cap, cap', hv1, hv2⟩
    · exact hiv.mono hsame
    · rcases hrel with ⟨A1, c1, c2, e1, e2, hcc, t, ht⟩ | hne
      · rw [hv1] at e2
        injection e2 with e2 _ _
        subst e2 e1
        obtain ⟨A2, c3, e3, hc3, hsl2⟩ := ho'.iv
        rw [hv2] at e3
        injection e3 with e3 _ _
        subst e3
        refine ⟨_, _, rfl, hcc, hsl2.sub fun j u hj => ?_⟩
        rw [ht, List.append_assoc, List.getElem?_append_left (List.getElem?_eq_some_iff.1 hj).1]
        exact hj
      · exact (As.iv v cs).loc w w' (fun k hk => hx'.block k (hlt k hk) (hne k hk)) hiv
  · rcases hor with ⟨_, ⟨rfl, rfl⟩ | hnew⟩ | ⟨g, off, cap, cap', hv1, hv2⟩
    · simpa using hrel
    · exact .inr fun k hk hk' => by
        have := hlt k hk
        have := hnew k hk'
        omega
    · rcases hrel with ⟨A1, c1, c2, e1, e2, hcc, t, ht⟩ | hne
      · rw [hv1] at e2
        injection e2 with e2 _ _
        refine .inl ⟨A1, c1, cap', e1, by rw [hv2, e2, List.length_append], hcc, t ++ news, by rw [ht, List.append_assoc]⟩
      · refine .inr fun k hk hk' => hne k hk ?_
        rw [hv2] at hk'
        rw [hv1]
        exact hk'
  · rcases hk with hk | hk
    · exact ⟨.inl (.inl hk), Nat.lt_of_lt_of_le (hlt k hk) hx'.size⟩
    · exact ⟨(hb k hk).1.imp .inr id, (hb k hk).2⟩
end
/-- rows of any kind as one -/
def As.many (τ : List As) : As :=
  ⟨fun k => ∃ A ∈ τ, A.fp k, fun w => ∀ A ∈ τ, A.ok w, fun w w' h hw A hA => A.loc w w' (fun k hk => h k ⟨A, hA, hk⟩) (hw A hA)⟩
section
variable {w0 w w' : World} {B : Nat} {M : Nat → Prop} {σ σ' : List As}
theorem many_nil (h : St w0 B M σ w) : St w0 B M (As.many [] :: σ) w :=
  ⟨h.ext, h.base, (fun _ h => by cases h), (fun k hk => by obtain ⟨_, h, _⟩ := hk; cases h), (fun _ _ k hk => by obtain ⟨_, h, _⟩ := hk; cases h), h.sep⟩
theorem many_in {A : As} {τ : List As} (h : St w0 B M (A :: As.many τ :: σ) w) : St w0 B M (As.many (τ ++ [A]) :: σ) w := by
  obtain ⟨hx, hB, h1, h2, h3, h4, h5, h6, h7⟩ := h
  refine ⟨hx, hB, fun X hX => ?_, fun k hk => ?_, fun X hX k hk => ?_, h7⟩
  · rcases List.mem_append.1 hX with h | h
    · exact h4 X h
    · rw [List.mem_singleton.1 h]; exact h1
  · obtain ⟨X, hX, hk⟩ := hk
    rcases List.mem_append.1 hX with h | h
    · exact h5 k ⟨X, h, hk⟩
    · rw [List.mem_singleton.1 h] at hk; exact h2 k hk
  · obtain ⟨Y, hY, hk⟩ := hk
    rcases List.mem_append.1 hY with h | h
    · exact h6 X hX k ⟨Y, h, hk⟩
    · rw [List.mem_singleton.1 h] at hk
      exact h3 X (.tail _ hX) k hk
theorem many_ok {A : As} {τ : List As} (h : St w0 B M σ w) (hm : As.many τ ∈ σ) (hA : A ∈ τ) : A.ok w := h.ok hm A hA
/-- a row brought to the front, from wherever it stands -/
theorem Sep.frontL_ {A : As} : ∀ {l r : List As}, Sep B M w (l ++ A :: r) → Sep B M w (A :: (l ++ r))
  | [], _, h => h
  | X :: l, r, h => (h.tail_ (fun s => s.frontL_) (fun Z hZ => by
      simp only [List.cons_append, List.mem_cons, List.mem_append] at hZ ⊢
      rcases hZ with h | h | h <;> simp [h])).swap_
theorem St.frontL {A : As} {l r : List As} (h : St w0 B M (l ++ A :: r) w) : St w0 B M (A :: (l ++ r)) w := ⟨h.ext, h.base, h.sep.frontL_⟩
/-- rows behind those that a call turns -/
theorem St.restKeeps {τ σ : List As} {X : As} (hw : St w0 B M (τ ++ σ) w) (hm : X ∈ σ) : ∀ w1 : World, (∀ k, k < w.heap.size → ¬ fps τ k → w1.heap[k]? = w.heap[k]?) → X.ok w1 := fun w1 h =>
  X.loc w w1 (fun k hk => h k (hw.sep.lt (List.mem_append_right _ hm) k hk).2 fun ⟨A, hA, hf⟩ => hw.sep.cross A hA X hm k hf hk) (hw.sep.ok (List.mem_append_right _ hm))
end
end Go.Vc
