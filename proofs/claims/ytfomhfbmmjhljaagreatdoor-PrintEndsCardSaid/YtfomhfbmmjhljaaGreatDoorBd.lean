/- law PrintEnds: closed texts -/
import Derived.Test.YtfomhfbmmjhljaaGreatDoorBa
set_option linter.unusedVariables false
set_option linter.unusedSimpArgs false
set_option maxRecDepth 10000
namespace Go.Proofs.YtfomhfbmmjhljaaGreatDoor.W
open Go.Vc Go.RowKit _root_.Go.Proofs.Tryz
theorem en0 {bb road place e : Int} (h : FlR [49, 101, 50, 48] 10 bb road place e) : bb = 4906019910204099648 ∧ road = Z58 .f64 10 1 (20) false ∧ place = 0 ∧ e = 0 := by
 have h1 := Z5a (d := .f64) (n := 1) (xx := 20) (b0 := 4906019910204099648) (W := [49]) (F := []) (x := 20) (man := 1) (x1 := 20) (more := false) (ng := false) (res := (4906019910204099648, true, 0)) h rfl (by decide +kernel) (by decide) (by decide +kernel) (by decide +kernel) (by decide +kernel) (by decide) (by decide +kernel) (by decide +kernel)
 exact h1
set_option exponentiation.threshold 2000 in
theorem eo0 : ShT 10 4906019910204099648 0 [49, 48, 48, 48, 48, 48, 48, 48, 48, 48, 48, 48, 48, 48, 48, 48, 48, 48, 48, 48, 48] :=
 ⟨(by decide +kernel), fun h => absurd rfl h, fun _ => ⟨.f64, [49, 48, 48, 48, 48, 48, 48, 48, 48, 48, 48, 48, 48, 48, 48, 48, 48, 48, 48, 48, 48], rfl, (by decide +kernel), (by decide +kernel), fun h => absurd h (by decide +kernel), fun _ _ => ⟨1, 20, ⟨20, 20, ⟨(by decide +kernel), by decide, fun g h1 h2 => by omega, (by decide +kernel)⟩, by decide, 0, (by decide +kernel), rfl⟩, (by decide +kernel)⟩⟩⟩
theorem en1 {bb road place e : Int} (h : FlR [49, 101, 50, 49] 10 bb road place e) : bb = 4921056587992461136 ∧ road = Z58 .f64 10 1 (21) false ∧ place = 0 ∧ e = 0 := by
 have h1 := Z5a (d := .f64) (n := 1) (xx := 21) (b0 := 4921056587992461136) (W := [49]) (F := []) (x := 21) (man := 1) (x1 := 21) (more := false) (ng := false) (res := (4921056587992461136, true, 0)) h rfl (by decide +kernel) (by decide) (by decide +kernel) (by decide +kernel) (by decide +kernel) (by decide) (by decide +kernel) (by decide +kernel)
 exact h1
set_option exponentiation.threshold 2000 in
theorem eo1 : ShT 10 4921056587992461136 0 [49, 101, 50, 49] :=
 ⟨(by decide +kernel), fun h => absurd rfl h, fun _ => ⟨.f64, [49, 101, 50, 49], rfl, (by decide +kernel), (by decide +kernel), fun h => absurd h (by decide +kernel), fun _ _ => ⟨1, 21, ⟨21, 21, ⟨(by decide +kernel), by decide, fun g h1 h2 => by omega, (by decide +kernel)⟩, by decide, 0, (by decide +kernel), rfl⟩, (by decide +kernel)⟩⟩⟩
theorem en2 {bb road place e : Int} (h : FlR [49, 46, 53, 101, 45, 54] 10 bb road place e) : bb = 4519690376349541460 ∧ road = Z58 .f64 10 15 (-7) false ∧ place = 0 ∧ e = 0 := by
 have h1 := Z5a (d := .f64) (n := 15) (xx := -7) (b0 := 4519690376349541459) (W := [49]) (F := [53]) (x := -6) (man := 15) (x1 := -7) (more := false) (ng := false) (res := (4519690376349541460, false, 0)) h rfl (by decide +kernel) (by decide) (by decide +kernel) (by decide +kernel) (by decide +kernel) (by decide) (by decide +kernel) (by decide +kernel)
 exact h1
set_option exponentiation.threshold 2000 in
theorem eo2 : ShT 10 4519690376349541460 0 [48, 46, 48, 48, 48, 48, 48, 49, 53] :=
 ⟨(by decide +kernel), fun h => absurd rfl h, fun _ => ⟨.f64, [48, 46, 48, 48, 48, 48, 48, 49, 53], rfl, (by decide +kernel), (by decide +kernel), fun h => absurd h (by decide +kernel), fun _ _ => ⟨15, -7, ⟨-6, -7, ⟨(by decide +kernel), by decide, fun g h1 h2 => by
  have hg : g = -6 := by omega
  rcases hg with rfl <;> decide +kernel, (by decide +kernel)⟩, by decide, 0, (by decide +kernel), rfl⟩, (by decide +kernel)⟩⟩⟩
theorem en3 {bb road place e : Int} (h : FlR [49, 46, 53, 101, 45, 55] 10 bb road place e) : bb = 4504762867522569078 ∧ road = Z58 .f64 10 15 (-8) false ∧ place = 0 ∧ e = 0 := by
 have h1 := Z5a (d := .f64) (n := 15) (xx := -8) (b0 := 4504762867522569078) (W := [49]) (F := [53]) (x := -7) (man := 15) (x1 := -8) (more := false) (ng := false) (res := (4504762867522569078, false, 0)) h rfl (by decide +kernel) (by decide) (by decide +kernel) (by decide +kernel) (by decide +kernel) (by decide) (by decide +kernel) (by decide +kernel)
 exact h1
set_option exponentiation.threshold 2000 in
theorem eo3 : ShT 10 4504762867522569078 0 [49, 46, 53, 101, 45, 55] :=
 ⟨(by decide +kernel), fun h => absurd rfl h, fun _ => ⟨.f64, [49, 46, 53, 101, 45, 55], rfl, (by decide +kernel), (by decide +kernel), fun h => absurd h (by decide +kernel), fun _ _ => ⟨15, -8, ⟨-7, -8, ⟨(by decide +kernel), by decide, fun g h1 h2 => by
  have hg : g = -7 := by omega
  rcases hg with rfl <;> decide +kernel, (by decide +kernel)⟩, by decide, 0, (by decide +kernel), rfl⟩, (by decide +kernel)⟩⟩⟩
theorem en4 {bb road place e : Int} (h : FlR [49, 50, 51, 52, 53, 54, 55, 56, 57, 48, 49, 50, 51, 52, 53, 54, 56, 48, 48, 48, 48] 10 bb road place e) : bb = 4907451598986591450 ∧ road = Z58 .f64 10 1234567890123456800 (2) false ∧ place = 0 ∧ e = 0 := by
 have h1 := Z5a (d := .f64) (n := 123456789012345680000) (xx := 0) (b0 := 4907451598986591449) (W := [49, 50, 51, 52, 53, 54, 55, 56, 57, 48, 49, 50, 51, 52, 53, 54, 56, 48, 48, 48, 48]) (F := []) (x := 0) (man := 1234567890123456800) (x1 := 2) (more := false) (ng := false) (res := (4907451598986591450, false, 0)) h rfl (by decide +kernel) (by decide) (by decide +kernel) (by decide +kernel) (by decide +kernel) (by decide) (by decide +kernel) (by decide +kernel)
 exact h1
set_option exponentiation.threshold 2000 in
theorem eo4 : ShT 10 4907451598986591450 0 [49, 50, 51, 52, 53, 54, 55, 56, 57, 48, 49, 50, 51, 52, 53, 54, 56, 48, 48, 48, 48] :=
 ⟨(by decide +kernel), fun h => absurd rfl h, fun _ => ⟨.f64, [49, 50, 51, 52, 53, 54, 55, 56, 57, 48, 49, 50, 51, 52, 53, 54, 56, 48, 48, 48, 48], rfl, (by decide +kernel), (by decide +kernel), fun h => absurd h (by decide +kernel), fun _ _ => ⟨12345678901234568, 4, ⟨20, 4, ⟨(by decide +kernel), by decide, fun g h1 h2 => by
  have hg : g = 5 ∨ g = 6 ∨ g = 7 ∨ g = 8 ∨ g = 9 ∨ g = 10 ∨ g = 11 ∨ g = 12 ∨ g = 13 ∨ g = 14 ∨ g = 15 ∨ g = 16 ∨ g = 17 ∨ g = 18 ∨ g = 19 ∨ g = 20 := by omega
  rcases hg with rfl | rfl | rfl | rfl | rfl | rfl | rfl | rfl | rfl | rfl | rfl | rfl | rfl | rfl | rfl | rfl <;> decide +kernel, (by decide +kernel)⟩, by decide, 0, (by decide +kernel), rfl⟩, (by decide +kernel)⟩⟩⟩
theorem en5 {bb road place e : Int} (h : FlR [53, 101, 45, 51, 50, 52] 10 bb road place e) : bb = 1 ∧ road = Z58 .f64 10 5 (-324) false ∧ place = 0 ∧ e = 0 := by
 have h1 := Z5a (d := .f64) (n := 5) (xx := -324) (b0 := 1) (W := [53]) (F := []) (x := -324) (man := 5) (x1 := -324) (more := false) (ng := false) (res := (1, false, 0)) h rfl (by decide +kernel) (by decide) (by decide +kernel) (by decide +kernel) (by decide +kernel) (by decide) (by decide +kernel) (by decide +kernel)
 exact h1
set_option exponentiation.threshold 2000 in
theorem eo5 : ShT 10 1 0 [53, 101, 45, 51, 50, 52] :=
 ⟨(by decide +kernel), fun h => absurd rfl h, fun _ => ⟨.f64, [53, 101, 45, 51, 50, 52], rfl, (by decide +kernel), (by decide +kernel), fun h => absurd h (by decide +kernel), fun _ _ => ⟨5, -324, ⟨-324, -324, ⟨(by decide +kernel), by decide, fun g h1 h2 => by omega, (by decide +kernel)⟩, by decide, 0, (by decide +kernel), rfl⟩, (by decide +kernel)⟩⟩⟩
theorem en6 {bb road place e : Int} (h : FlR [49, 46, 55, 57, 55, 54, 57, 51, 49, 51, 52, 56, 54, 50, 51, 49, 53, 55, 101, 51, 48, 56] 10 bb road place e) : bb = 9218868437227405311 ∧ road = Z58 .f64 10 17976931348623157 (292) false ∧ place = 0 ∧ e = 0 := by
 have h1 := Z5a (d := .f64) (n := 17976931348623157) (xx := 292) (b0 := 9218868437227405310) (W := [49]) (F := [55, 57, 55, 54, 57, 51, 49, 51, 52, 56, 54, 50, 51, 49, 53, 55]) (x := 308) (man := 17976931348623157) (x1 := 292) (more := false) (ng := false) (res := (9218868437227405311, false, 0)) h rfl (by decide +kernel) (by decide) (by decide +kernel) (by decide +kernel) (by decide +kernel) (by decide) (by decide +kernel) (by decide +kernel)
 exact h1
set_option exponentiation.threshold 2000 in
theorem eo6 : ShT 10 9218868437227405311 0 [49, 46, 55, 57, 55, 54, 57, 51, 49, 51, 52, 56, 54, 50, 51, 49, 53, 55, 101, 51, 48, 56] :=
 ⟨(by decide +kernel), fun h => absurd rfl h, fun _ => ⟨.f64, [49, 46, 55, 57, 55, 54, 57, 51, 49, 51, 52, 56, 54, 50, 51, 49, 53, 55, 101, 51, 48, 56], rfl, (by decide +kernel), (by decide +kernel), fun h => absurd h (by decide +kernel), fun _ _ => ⟨17976931348623157, 292, ⟨308, 292, ⟨(by decide +kernel), by decide, fun g h1 h2 => by
  have hg : g = 293 ∨ g = 294 ∨ g = 295 ∨ g = 296 ∨ g = 297 ∨ g = 298 ∨ g = 299 ∨ g = 300 ∨ g = 301 ∨ g = 302 ∨ g = 303 ∨ g = 304 ∨ g = 305 ∨ g = 306 ∨ g = 307 ∨ g = 308 := by omega
  rcases hg with rfl | rfl | rfl | rfl | rfl | rfl | rfl | rfl | rfl | rfl | rfl | rfl | rfl | rfl | rfl | rfl <;> decide +kernel, (by decide +kernel)⟩, by decide, 0, (by decide +kernel), rfl⟩, (by decide +kernel)⟩⟩⟩
theorem en7 {bb road place e : Int} (h : FlR [49, 48, 48] 10 bb road place e) : bb = 4636737291354636288 ∧ road = Z58 .f64 10 100 (0) false ∧ place = 0 ∧ e = 0 := by
 have h1 := Z5a (d := .f64) (n := 100) (xx := 0) (b0 := 4636737291354636288) (W := [49, 48, 48]) (F := []) (x := 0) (man := 100) (x1 := 0) (more := false) (ng := false) (res := (4636737291354636288, true, 0)) h rfl (by decide +kernel) (by decide) (by decide +kernel) (by decide +kernel) (by decide +kernel) (by decide) (by decide +kernel) (by decide +kernel)
 exact h1
set_option exponentiation.threshold 2000 in
theorem eo7 : ShT 10 4636737291354636288 0 [49, 48, 48] :=
 ⟨(by decide +kernel), fun h => absurd rfl h, fun _ => ⟨.f64, [49, 48, 48], rfl, (by decide +kernel), (by decide +kernel), fun h => absurd h (by decide +kernel), fun _ _ => ⟨1, 2, ⟨2, 2, ⟨(by decide +kernel), by decide, fun g h1 h2 => by omega, (by decide +kernel)⟩, by decide, 0, (by decide +kernel), rfl⟩, (by decide +kernel)⟩⟩⟩
theorem en8 {bb road place e : Int} (h : FlR [48, 46, 53] 10 bb road place e) : bb = 4602678819172646912 ∧ road = Z58 .f64 10 5 (-1) false ∧ place = 0 ∧ e = 0 := by
 have h1 := Z5a (d := .f64) (n := 5) (xx := -1) (b0 := 4602678819172646912) (W := [48]) (F := [53]) (x := 0) (man := 5) (x1 := -1) (more := false) (ng := false) (res := (4602678819172646912, true, 0)) h rfl (by decide +kernel) (by decide) (by decide +kernel) (by decide +kernel) (by decide +kernel) (by decide) (by decide +kernel) (by decide +kernel)
 exact h1
set_option exponentiation.threshold 2000 in
theorem eo8 : ShT 10 4602678819172646912 0 [48, 46, 53] :=
 ⟨(by decide +kernel), fun h => absurd rfl h, fun _ => ⟨.f64, [48, 46, 53], rfl, (by decide +kernel), (by decide +kernel), fun h => absurd h (by decide +kernel), fun _ _ => ⟨5, -1, ⟨-1, -1, ⟨(by decide +kernel), by decide, fun g h1 h2 => by omega, (by decide +kernel)⟩, by decide, 0, (by decide +kernel), rfl⟩, (by decide +kernel)⟩⟩⟩
def enT : List L8 := [[49, 101, 50, 48], [49, 101, 50, 49], [49, 46, 53, 101, 45, 54], [49, 46, 53, 101, 45, 55], [49, 50, 51, 52, 53, 54, 55, 56, 57, 48, 49, 50, 51, 52, 53, 54, 56, 48, 48, 48, 48], [53, 101, 45, 51, 50, 52], [49, 46, 55, 57, 55, 54, 57, 51, 49, 51, 52, 56, 54, 50, 51, 49, 53, 55, 101, 51, 48, 56], [49, 48, 48], [48, 46, 53]]
def eoT : List L8 := [[49, 48, 48, 48, 48, 48, 48, 48, 48, 48, 48, 48, 48, 48, 48, 48, 48, 48, 48, 48, 48], [49, 101, 50, 49], [48, 46, 48, 48, 48, 48, 48, 49, 53], [49, 46, 53, 101, 45, 55], [49, 50, 51, 52, 53, 54, 55, 56, 57, 48, 49, 50, 51, 52, 53, 54, 56, 48, 48, 48, 48], [53, 101, 45, 51, 50, 52], [49, 46, 55, 57, 55, 54, 57, 51, 49, 51, 52, 56, 54, 50, 51, 49, 53, 55, 101, 51, 48, 56], [49, 48, 48], [48, 46, 53]]
theorem en_all {i : Nat} {s : L8} {bb road place e : Int} (hi : i < 9) (hs : enT[i]? = some s) (h : FlR s 10 bb road place e) : e = 0 ∧ (0 ≤ bb ∧ bb ≤ 18446744073709551615) ∧ ∃ o, eoT[i]? = some o ∧ ShT 10 bb 0 o := by
 have h10 : i = 0 ∨ i = 1 ∨ i = 2 ∨ i = 3 ∨ i = 4 ∨ i = 5 ∨ i = 6 ∨ i = 7 ∨ i = 8 := by omega
 rcases h10 with rfl | rfl | rfl | rfl | rfl | rfl | rfl | rfl | rfl
 ·cases hs
  obtain ⟨rfl, _, _, rfl⟩ := en0 h
  exact ⟨rfl, ZO, _, rfl, eo0⟩
 ·cases hs
  obtain ⟨rfl, _, _, rfl⟩ := en1 h
  exact ⟨rfl, ZO, _, rfl, eo1⟩
 ·cases hs
  obtain ⟨rfl, _, _, rfl⟩ := en2 h
  exact ⟨rfl, ZO, _, rfl, eo2⟩
 ·cases hs
  obtain ⟨rfl, _, _, rfl⟩ := en3 h
  exact ⟨rfl, ZO, _, rfl, eo3⟩
 ·cases hs
  obtain ⟨rfl, _, _, rfl⟩ := en4 h
  exact ⟨rfl, ZO, _, rfl, eo4⟩
 ·cases hs
  obtain ⟨rfl, _, _, rfl⟩ := en5 h
  exact ⟨rfl, ZO, _, rfl, eo5⟩
 ·cases hs
  obtain ⟨rfl, _, _, rfl⟩ := en6 h
  exact ⟨rfl, ZO, _, rfl, eo6⟩
 ·cases hs
  obtain ⟨rfl, _, _, rfl⟩ := en7 h
  exact ⟨rfl, ZO, _, rfl, eo7⟩
 cases hs
 obtain ⟨rfl, _, _, rfl⟩ := en8 h
 exact ⟨rfl, ZO, _, rfl, eo8⟩
set_option exponentiation.threshold 2000 in
theorem ef_a : FixT 10 4607182418800017408 40 0 (49 :: 46 :: List.replicate 40 48) := ⟨by decide +kernel, fun h => absurd rfl h, fun _ => ⟨.f64, rfl, by decide +kernel, by decide +kernel⟩⟩
theorem ef_f {e : Int} {t : L8} (h : FixT 10 0 41 e t) : e = 110 := h.1.trans (by decide +kernel)
theorem ef_g {e : Int} {t : L8} (h : ExT 10 0 (-1) e t) : e = 110 := h.1.trans (by decide +kernel)
theorem ef_h {e : Int} {t : L8} (h : FixT 9 4294967296 41 e t) : e = 31 := h.1.trans (by decide +kernel)
theorem ef_i {e : Int} {t : L8} (h : ShT 11 0 e t) : e = 30 := h.1.trans (by decide +kernel)
set_option exponentiation.threshold 2000 in
theorem ef_j : ExT 10 1 0 0 [53, 101, 45, 51, 50, 52] := ⟨by decide +kernel, fun h => absurd rfl h, fun _ => ⟨.f64, [53, 101, 45, 51, 50, 52], rfl, by decide +kernel, by decide +kernel, fun h => absurd h (by decide +kernel), fun _ _ => ⟨-324, by decide +kernel, by decide +kernel⟩⟩⟩
theorem printEndsL  (w : World) (hT : TabP w) :
  Z0h P 4 [] w fun r w' => r = .bool true ∧ Grow w w' [] := by
 refine Z0n func4 rfl ntmps4 rfl ?_
 have H0 := St.start w
 refine Z03 (Z00 (Zg (Z02 (Z01 (Z03 (Z00 ?_))))))
 refine Zc func6 (newC w) ?_
 rintro _ w1 ⟨b, rfl, hG⟩
 have H1 := hG _ _ _ _ H0
 simp only [Zca, Zna] at H1
 refine Zg (Z02 (Z01 ?_))
 refine Zk [1] ?_
 refine Z03 (Z03 (Z00 (Zm ?_)))
 refine l_eqlp ZK rfl rfl rfl rfl ?_
 refine Z0u (s := 25) (v' := .bool false) rfl (by rfl) ?_
 refine Z02 (Z01 ?_)
 refine c_cond_f rfl rfl ?_
 refine Z0c (Z01 ?_)
 refine Zk [1] ?_
 refine Z03 (Z00 ?_)
 refine Z1D H1 rfl rfl underlying40 ti9 rfl (.cons rfl ZR (.cons rfl ZR (.cons rfl ZR (.cons rfl ZR (.cons rfl ZR (.cons rfl ZR (.cons rfl ZR (.cons rfl ZR (.cons rfl ZR .nil))))))))) rfl rfl rfl (fun b4_0 w2 H2 => ?_)
 refine Zg (Z02 (Z01 (Z03 (Z00 ?_))))
 refine Z1D H2 rfl rfl underlying40 ti9 rfl (.cons rfl ZR (.cons rfl ZR (.cons rfl ZR (.cons rfl ZR (.cons rfl ZR (.cons rfl ZR (.cons rfl ZR (.cons rfl ZR (.cons rfl ZR .nil))))))))) rfl rfl rfl (fun b5_0 w3 H3 => ?_)
 refine Zg (Z02 (Z01 ?_))
 refine Zk [1, 2, 3] ?_
 refine Z03 (Z03 (Z00 ?_))
 have H4 := St.frontL (l := [_, _, _]) H3
 simp only [Zca, Zna] at H4
 have H5 := St.frontL (l := [_, _, _]) H4
 simp only [Zca, Zna] at H5
 refine Zg (Z02 (Z01 (Z0e ?_)))
 refine Z0y (ι := Nat × Cac) (fun (z0 : Nat × Cac) => match z0 with | ⟨i, L1⟩ => 9 - i) (fun (z0 : Nat × Cac) (w' : World) => match z0 with | ⟨i, L1⟩ => St w w.heap.size Z0G ([As.blk b 65 (cacC L1), As.many (inR L1), As.blk b5_0 9 [str [49, 48, 48, 48, 48, 48, 48, 48, 48, 48, 48, 48, 48, 48, 48, 48, 48, 48, 48, 48, 48], str [49, 101, 50, 49], str [48, 46, 48, 48, 48, 48, 48, 49, 53], str [49, 46, 53, 101, 45, 55], str [49, 50, 51, 52, 53, 54, 55, 56, 57, 48, 49, 50, 51, 52, 53, 54, 56, 48, 48, 48, 48], str [53, 101, 45, 51, 50, 52], str [49, 46, 55, 57, 55, 54, 57, 51, 49, 51, 52, 56, 54, 50, 51, 49, 53, 55, 101, 51, 48, 56], str [49, 48, 48], str [48, 46, 53]], As.blk b4_0 9 [str [49, 101, 50, 48], str [49, 101, 50, 49], str [49, 46, 53, 101, 45, 54], str [49, 46, 53, 101, 45, 55], str [49, 50, 51, 52, 53, 54, 55, 56, 57, 48, 49, 50, 51, 52, 53, 54, 56, 48, 48, 48, 48], str [53, 101, 45, 51, 50, 52], str [49, 46, 55, 57, 55, 54, 57, 51, 49, 51, 52, 56, 54, 50, 51, 49, 53, 55, 101, 51, 48, 56], str [49, 48, 48], str [48, 46, 53]]]) w' ∧ i ≤ 9 ∧ L1.length = 41) (fun (z0 : Nat × Cac) => match z0 with | ⟨i, L1⟩ => [(4, .int .i64 (i : Int))]) [1, 2, 3] (0, (List.replicate 41 none)) ?_ (.cons rfl (.cons rfl (.cons rfl .nil))) ?_ ?_
 ·exact ⟨H5, ZO, (List.length_replicate ..)⟩
 ·exact (.cons rfl ZN .nil)
 rintro ⟨i, L1⟩ w6 ⟨H6, hi, hL1⟩
 show RunC P _ _ _ (_ :: _) _
 refine Z03 (Z03 (Z00 (Zm ?_)))
 refine Zm ?_
 refine v_len rfl rfl underlying40 rfl (by first | exact H6.ibl mem0 | exact H6.ibl mem2 | exact H6.ibl mem3 | assumption) ?_
 refine Zl ?_
 refine Z02 (Z01 ?_)
 (first | refine Z0a rfl ?_ ?_ | refine Z06 rfl ?_ ?_) <;> intro hc1
 ·refine Z0c (Z01 ?_)
  refine Zk [1, 2, 3, 4] ?_
  refine Z03 (Z0e (Z03 (Z00 ?_)))
  have hln : ([str [49, 101, 50, 48], str [49, 101, 50, 49], str [49, 46, 53, 101, 45, 54], str [49, 46, 53, 101, 45, 55], str [49, 50, 51, 52, 53, 54, 55, 56, 57, 48, 49, 50, 51, 52, 53, 54, 56, 48, 48, 48, 48], str [53, 101, 45, 51, 50, 52], str [49, 46, 55, 57, 55, 54, 57, 51, 49, 51, 52, 56, 54, 50, 51, 49, 53, 55, 101, 51, 48, 56], str [49, 48, 48], str [48, 46, 53]] : List Value).length = 9 := rfl
  obtain ⟨s, hs⟩ : ∃ s, enT[i]? = some s := ⟨_, List.getElem?_eq_getElem (show i < 9 by omega)⟩
  have hgt : ([str [49, 101, 50, 48], str [49, 101, 50, 49], str [49, 46, 53, 101, 45, 54], str [49, 46, 53, 101, 45, 55], str [49, 50, 51, 52, 53, 54, 55, 56, 57, 48, 49, 50, 51, 52, 53, 54, 56, 48, 48, 48, 48], str [53, 101, 45, 51, 50, 52], str [49, 46, 55, 57, 55, 54, 57, 51, 49, 51, 52, 56, 54, 50, 51, 49, 53, 55, 101, 51, 48, 56], str [49, 48, 48], str [48, 46, 53]] : List Value)[i]? = some (str s) := by
   show (enT.map str)[i]? = _
   rw [List.getElem?_map, hs]
   rfl
  have hsl : s.length ≤ 1099511627776 := by
   have := List.mem_of_getElem? hs
   simp only [enT, List.mem_cons, List.not_mem_nil, or_false] at this
   rcases this with rfl | rfl | rfl | rfl | rfl | rfl | rfl | rfl | rfl <;> decide
  refine Zm ?_
  refine Zm ?_
  refine Zm ?_
  refine v_get rfl rfl rfl rfl underlying40 tz9 underlying9 rfl rfl rfl (by first | exact H6.ibl mem0 | exact H6.ibl mem2 | exact H6.ibl mem3 | assumption) ZI hgt ?_ rfl
  refine Z3R H6 rfl rfl underlying9 underlying26 underlying5 rfl (fun v9_5 w7 H7 => ?_)
  obtain ⟨A, c, rfl, hvs⟩ := IB.sl (t := s) (H7.ii mem0)
  have H8 := St.frontL (l := [_, _]) H7
  simp only [Zca, Zna] at H8
  have H9 := St.frontL (l := [_, _]) H8
  simp only [Zca, Zna] at H9
  refine Z0J rfl rfl func12 rfl rfl (.cons rfl (.cons rfl (.cons rfl .nil))) (FloatP b L1 hL1 (10) A c s hsl w7 (St.rows (τ := cacW b L1) H9) (St_argR (τ := cacW b L1) H9 (A := As.iv _ _) (.head _) (R := fun w1 => IB w1 _ s) (fun w1 h => h))) ?_
  rintro _ w10 ⟨bbx, rox, plx, ex, Lx, ox, rfl, hFx, hNex, hCax, hLx, hX⟩
  have H10 := hX _ _ _ _ H9
  simp only [cacW, List.cons_append, List.nil_append] at H10
  obtain ⟨rfl, hbx, o, ho, hSo⟩ := en_all ZO hs hFx
  have hgo : ([str [49, 48, 48, 48, 48, 48, 48, 48, 48, 48, 48, 48, 48, 48, 48, 48, 48, 48, 48, 48, 48], str [49, 101, 50, 49], str [48, 46, 48, 48, 48, 48, 48, 49, 53], str [49, 46, 53, 101, 45, 55], str [49, 50, 51, 52, 53, 54, 55, 56, 57, 48, 49, 50, 51, 52, 53, 54, 56, 48, 48, 48, 48], str [53, 101, 45, 51, 50, 52], str [49, 46, 55, 57, 55, 54, 57, 51, 49, 51, 52, 56, 54, 50, 51, 49, 53, 55, 101, 51, 48, 56], str [49, 48, 48], str [48, 46, 53]] : List Value)[i]? = some (str o) := by
   show (eoT.map str)[i]? = _
   rw [List.getElem?_map, ho]
   rfl
  refine Zm ?_
  refine Zx (Zx (Zx (Zx (Zg ?_))))
  refine Zg ?_
  refine Zg ?_
  refine Zg (Z02 (Z01 (Z03 (Z00 ?_))))
  refine Zm ?_
  refine Zc func7 (Z59 10 bbx hbx w10 (Z2B hT (fun k hk hf => H10.ext.block k hk hf))) ?_
  rintro _ w11 ⟨va, ea, ta, rfl, hSa, hG⟩
  have H11 := hG _ _ _ _ H10
  simp only [Zca, Zna] at H11
  obtain ⟨rfl, rfl⟩ := hSa.unique ZO hSo
  refine Zm ?_
  refine Zx (Zx (Zg ?_))
  refine Zg (Z02 (Z01 ?_))
  refine Zk [1, 2, 3, 4, 8, 9, 10] ?_
  refine Z03 ?_
  refine Z2c ZK ZK ?_
  have H12 := H11.drewn
  refine Zm ?_
  refine Z0Q rfl rfl func8 rfl rfl (.cons rfl .nil) (Z4q _ _) ?_
  refine Zo ?_
  refine Z0u (s := 53) (v' := .bool false) rfl (by simp) ?_
  refine Zm ?_
  refine Zm ?_
  refine Z0Q rfl rfl func8 rfl rfl (.cons rfl .nil) (Z4q _ _) ?_
  refine Zo ?_
  refine Z0u (s := 57) (v' := .bool false) rfl (by simp) ?_
  refine Z3x rfl rfl rfl rfl ?_
  refine Zm ?_
  refine Zm ?_
  refine Z4A (l := ta) rfl rfl underlying26 underlying5 underlying9 rfl (by first | exact H12.io mem0 | exact H12.ibl mem1 | exact H12.ii mem3 | exact H12.ibl mem4 | exact H12.ibl mem5 | assumption) ?_
  refine Zm ?_
  refine Zm ?_
  refine v_get rfl rfl rfl rfl underlying40 tz9 underlying9 rfl rfl rfl (by first | exact H12.io mem0 | exact H12.ibl mem1 | exact H12.ii mem3 | exact H12.ibl mem4 | exact H12.ibl mem5 | assumption) ZI hgo ?_ rfl
  refine l_neqs rfl rfl rfl rfl ?_
  refine Z0u (s := 66) (v' := .bool false) rfl (by simp) ?_
  refine Z3x rfl rfl rfl rfl ?_
  refine Z02 (Z01 ?_)
  refine c_cond_f rfl rfl ?_
  refine Z0c ?_
  refine Z0C ?_
  refine Z01 ?_
  refine Zk [1, 2, 3, 4] ?_
  refine Z00 (Zm ?_)
  refine Z0w rfl rfl rfl rfl (Z0i ZO) ?_
  refine Zg (Z02 ?_)
  have H14 := St.del .head (St.del (.tail (.tail (.tail .head))) H12)
  refine Z0r (i := (i, L1)) (i + 1, Lx) ?_ ?_ (.cons rfl (.cons rfl (.cons rfl .nil))) ?_
  ·first | omega | (simp; omega)
  ·exact ⟨H14, ZO, hLx⟩
  exact (.cons rfl ZN .nil)
 refine Z0E ?_
 refine Z07 ?_
 refine Z07 ?_
 refine Z0l ?_
 refine Z01 (Z03 (Z00 ?_))
 refine Zc func14 (FixedP 10 4607182418800017408 ZO 40 ZO w6) ?_
 rintro _ w15 ⟨vb, eb, tb, rfl, hFb, hG⟩
 have H15 := hG _ _ _ _ H6
 simp only [Zca, Zna] at H15
 obtain ⟨rfl, rfl⟩ := hFb.unique ef_a
 refine Zm ?_
 refine Zx (Zx (Zg ?_))
 refine Zg (Z02 (Z01 ?_))
 refine Zk [11, 12] ?_
 refine Z03 (Z00 ?_)
 refine Zc func14 (FixedP 10 0 ZO 41 ZO w15) ?_
 rintro _ w16 ⟨vf, ef, tf, rfl, hFf, hG⟩
 have H16 := hG _ _ _ _ H15
 simp only [Zca, Zna] at H16
 obtain rfl := ef_f hFf
 refine Zm ?_
 refine Zx (Zx (Zg ?_))
 refine Zg (Z02 (Z01 (Z03 (Z00 ?_))))
 refine Zc func13 (ExponentP 10 0 ZO (-1) ZO w16 (Z2B hT (fun k hk hf => H16.ext.block k hk hf))) ?_
 rintro _ w17 ⟨vg, eg, tg, rfl, hEg, hG⟩
 have H17 := hG _ _ _ _ H16
 simp only [Zca, Zna] at H17
 obtain rfl := ef_g hEg
 refine Zm ?_
 refine Zx (Zx (Zg ?_))
 refine Zg (Z02 (Z01 ?_))
 refine Zk [11, 12, 14, 16] ?_
 refine Z03 (Z00 ?_)
 refine Zc func14 (FixedP 9 4294967296 ZO 41 ZO w17) ?_
 rintro _ w18 ⟨vh, eh, th, rfl, hFh, hG⟩
 have H18 := hG _ _ _ _ H17
 simp only [Zca, Zna] at H18
 obtain rfl := ef_h hFh
 refine Zm ?_
 refine Zx (Zx (Zg ?_))
 refine Zg (Z02 (Z01 (Z03 (Z00 ?_))))
 refine Zc func7 (Z59 11 0 ZO w18 (Z2B hT (fun k hk hf => H18.ext.block k hk hf))) ?_
 rintro _ w19 ⟨vi, ei, ti, rfl, hSi, hG⟩
 have H19 := hG _ _ _ _ H18
 simp only [Zca, Zna] at H19
 obtain rfl := ef_i hSi
 refine Zm ?_
 refine Zx (Zx (Zg ?_))
 refine Zg (Z02 (Z01 ?_))
 refine Zk [11, 12, 14, 16, 18, 20] ?_
 refine Z03 (Z00 ?_)
 refine Zc func13 (ExponentP 10 1 ZO 0 ZO w19 (Z2B hT (fun k hk hf => H19.ext.block k hk hf))) ?_
 rintro _ w20 ⟨vj, ej, tj, rfl, hEj, hG⟩
 have H20 := hG _ _ _ _ H19
 simp only [Zca, Zna] at H20
 obtain ⟨rfl, rfl⟩ := hEj.unique ZO ef_j
 refine Zm ?_
 refine Zx (Zx (Zg ?_))
 refine Zg (Z02 (Z01 (Z03 (Z00 ?_))))
 refine Zm ?_
 refine Z0Q rfl rfl func8 rfl rfl (.cons rfl .nil) (Z4q _ _) ?_
 refine Ze ?_
 refine Z0u (s := 94) (v' := .bool true) rfl (by simp) ?_
 refine Zm ?_
 refine Zm ?_
 refine Z0L rfl rfl underlying26 rfl (by first | exact H20.io mem0 | exact H20.io mem1 | exact H20.io mem2 | exact H20.io mem3 | exact H20.io mem4 | exact H20.io mem5 | exact H20.ibl mem6 | exact H20.ibl mem8 | exact H20.ibl mem9 | assumption) ?_
 refine Ze ?_
 refine Z0u (s := 98) (v' := .bool true) rfl (by simp) ?_
 refine Z1J rfl rfl rfl rfl ?_
 refine Zm ?_
 refine Zm ?_
 refine Z0Q rfl rfl func8 rfl rfl (.cons rfl .nil) (Z4q _ _) ?_
 refine Ze ?_
 refine Z0u (s := 103) (v' := .bool true) rfl (by simp) ?_
 refine Z1J rfl rfl rfl rfl ?_
 refine Zm ?_
 refine Zm ?_
 refine Z0Q rfl rfl func8 rfl rfl (.cons rfl .nil) (Z4q _ _) ?_
 refine Ze ?_
 refine Z0u (s := 108) (v' := .bool true) rfl (by simp) ?_
 refine Z1J rfl rfl rfl rfl ?_
 refine Zm ?_
 refine Zm ?_
 refine Z0Q rfl rfl func8 rfl rfl (.cons rfl .nil) (Z4q _ _) ?_
 refine Ze ?_
 refine Z0u (s := 113) (v' := .bool true) rfl (by simp) ?_
 refine Z1J rfl rfl rfl rfl ?_
 refine Zm ?_
 refine Zm ?_
 refine Z0Q rfl rfl func8 rfl rfl (.cons rfl .nil) (Z4q _ _) ?_
 refine Ze ?_
 refine Z0u (s := 118) (v' := .bool true) rfl (by simp) ?_
 refine Z1J rfl rfl rfl rfl ?_
 refine Zm ?_
 refine Zm ?_
 refine Z0Q rfl rfl func8 rfl rfl (.cons rfl .nil) (Z4q _ _) ?_
 refine Ze ?_
 refine Z0u (s := 123) (v' := .bool true) rfl (by simp) ?_
 refine Z1J rfl rfl rfl rfl ?_
 refine Zm ?_
 refine Zm ?_
 refine Z4A (l := [53, 101, 45, 51, 50, 52]) rfl rfl underlying26 underlying5 underlying9 rfl (by first | exact H20.io mem0 | exact H20.io mem1 | exact H20.io mem2 | exact H20.io mem3 | exact H20.io mem4 | exact H20.io mem5 | exact H20.ibl mem6 | exact H20.ibl mem8 | exact H20.ibl mem9 | assumption) ?_
 refine l_eqls rfl rfl rfl rfl ?_
 refine Z0u (s := 128) (v' := .bool true) rfl (by simp) ?_
 refine Z1J rfl rfl rfl rfl ?_
 refine Zm ?_
 refine Z1J rfl rfl rfl rfl ?_
 refine Zm ?_
 refine Zc func9 (wakesL11 w20 (Z2B hT (fun k hk hf => H20.ext.block k hk hf))) ?_
 rintro _ w21 ⟨rfl, hG⟩
 have H21 := hG _ _ _ _ H20
 simp only [Zca, Zna] at H21
 refine Z1J rfl rfl rfl rfl ?_
 refine Zg (Z02 (Z01 ?_))
 refine Zk [0] ?_
 refine Z0f ?_
 refine Z0q results4 rfl ?_
 refine ⟨_, rfl, ?_⟩
 have H31 := St.del .head (St.del (.tail .head) (St.del (.tail (.tail .head)) (St.del (.tail (.tail (.tail .head))) (St.del (.tail (.tail (.tail (.tail .head)))) (St.del (.tail (.tail (.tail (.tail (.tail .head))))) (St.del (.tail (.tail (.tail (.tail (.tail (.tail .head)))))) (St.del (.tail (.tail (.tail (.tail (.tail (.tail (.tail .head))))))) (St.del (.tail (.tail (.tail (.tail (.tail (.tail (.tail (.tail .head)))))))) (St.del (.tail (.tail (.tail (.tail (.tail (.tail (.tail (.tail (.tail .head))))))))) H21)))))))))
 exact ⟨rfl, H31.grows⟩
end Go.Proofs.YtfomhfbmmjhljaaGreatDoor.W
