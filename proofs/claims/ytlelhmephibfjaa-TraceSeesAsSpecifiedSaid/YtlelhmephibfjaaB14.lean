/- Texts of this claim, laid together: O1. -/
import Derived.Test.YtlelhmephibfjaaB1
import Derived.Deep.Slices
import Derived.OpenShut

namespace Go.Proofs.Ytlelhmephibfjaa.T
set_option linter.unusedVariables false
set_option linter.unusedSimpArgs false
open Go.RowKit Go.Proofs.YtlelhmephibfjaaW.PrintWords Go.Proofs.YtlelhmephibfjaaW.PrintLast Go.Proofs.YtlelhmephibfjaaW.PrintMore

section
variable {H : Type} {enc : TypeId × Value → H} {w : World} {base : Nat} {spare : Nat → Bool} {held : Bool}

/-- a slice, element for element -/
theorem open_row {α : Type} (d : Kd α) (z : α) {t e : TypeId} {fuel : Nat} {cs : List Value} {x : DataW H × List MemPlace} (ht : Try.prog.underlying t = some (.slice e)) (hsz : Try.prog.cellsOf e = d.sz)
    (hel : ∀ (m : Nat) (c : List Value) (y : DataW H × List MemPlace), c.length = d.sz → DataW.trod enc Try.prog w base spare held m e c = some y → ∃ p : α, d.K w p c)
    (h : DataW.trod enc Try.prog w base spare held fuel t cs = some x) : ∃ (A : Option Addr) (n c : Nat) (xs : List α), cs = [.slice A n c] ∧ n ≤ c ∧ xs.length = n ∧ d.C w A n xs := by
  rcases Deep.open_slice ht h with ⟨rfl, _⟩ | ⟨a, len, cap, m, n, D, Pl, rfl, hb, hl, hm, hmm, rfl, hx⟩
  · exact ⟨none, 0, 0, [], rfl, Nat.le_refl _, rfl, rfl, by decide, fun h => absurd h (by decide)⟩
  · have hlm : len ≤ m := by rw [hmm]; split <;> omega
    have each : ∀ i, i < len → ∃ p : α, ∃ c, c.length = d.sz ∧ d.K w p c ∧ ∀ j u, c[j]? = some u → w.cell? (a.add (i * d.sz + j)) = some u := by
      intro i hi
      obtain ⟨cs', h1, h2⟩ := hx i (by omega)
      rw [hsz] at h1
      obtain ⟨_, hlen, hcell⟩ := World.cells?_some h1
      obtain ⟨p, hp⟩ := hel n cs' _ hlen h2
      refine ⟨p, cs', hlen, hp, fun j u hu => ?_⟩
      have hj : j < d.sz := by rw [← hlen]; exact (List.getElem?_eq_some_iff.1 hu).1
      rw [← Deep.add_add, hcell j hj, hu]
    obtain ⟨f, hf⟩ := @Deep.choose_lt α ⟨z⟩ _ _ each
    refine ⟨some a, len, cap, (List.range len).map f, rfl, hl, by simp, by simp, Nat.le_trans (Nat.le_trans hl hm) (by decide), fun _ => ⟨a, rfl, fun j p hp => ?_⟩⟩
    have hj : j < len := by
      have := (List.getElem?_eq_some_iff.1 hp).1
      simpa using this
    rw [List.getElem?_map, List.getElem?_range hj] at hp
    cases hp
    obtain ⟨c, h1, h2, h3⟩ := hf j hj
    exact ⟨c, h1, h2, h3⟩
theorem open_int_el (m : Nat) (c : List Value) (y : DataW H × List MemPlace) (hc : c.length = (Kd.int .i64).sz) (h : DataW.trod enc Try.prog w base spare held m 3 c = some y) : ∃ p : Int, (Kd.int .i64).K w p c := by
  obtain ⟨n, rfl, _, _⟩ := DataW.trod_int Try.underlying3 h
  exact ⟨n, rfl⟩
set_option maxRecDepth 100000 in
theorem open_row23 {fuel : Nat} {cs : List Value} {x : DataW H × List MemPlace} (h : DataW.trod enc Try.prog w base spare held fuel 23 cs = some x) : ∃ (A : Option Addr) (n c : Nat) (xs : List Int), cs = [.slice A n c] ∧ n ≤ c ∧ xs.length = n ∧ (Kd.int .i64).C w A n xs :=
  open_row (Kd.int .i64) 0 Try.underlying23 (by kernel_rfl) open_int_el h
set_option maxRecDepth 100000 in
theorem open_el25 (m : Nat) (c : List Value) (y : DataW H × List MemPlace) (hc : c.length = k25.sz) (h : DataW.trod enc Try.prog w base spare held m 25 c = some y) : ∃ p : S25, k25.K w p c := by
  obtain ⟨xs, k, _, _, _, hxl, hf⟩ := DataW.trod_struct Try.underlying25 h
  have hc10 : c.length = 10 := hc
  have c3 : Try.prog.cellsOf 3 = 1 := by kernel_rfl
  have c23 : Try.prog.cellsOf 23 = 1 := by kernel_rfl
  match c, hc10 with
  | [v0, v1, v2, v3, v4, v5, v6, v7, v8, v9], _ =>
    match xs, hxl with
    | [y0, y1, y2, y3, y4, y5, y6, y7, y8, y9], _ =>
      have g0 := hf 0 _ rfl
      have g1 := hf 1 _ rfl
      have g2 := hf 2 _ rfl
      have g3 := hf 3 _ rfl
      have g4 := hf 4 _ rfl
      have g5 := hf 5 _ rfl
      have g6 := hf 6 _ rfl
      have g7 := hf 7 _ rfl
      have g8 := hf 8 _ rfl
      have g9 := hf 9 _ rfl
      simp [c3, c23] at g0 g1 g2 g3 g4 g5 g6 g7 g8 g9
      obtain ⟨n0, e0, _, _⟩ := DataW.trod_int Try.underlying3 g0
      obtain ⟨n1, e1, _, _⟩ := DataW.trod_int Try.underlying3 g1
      obtain ⟨n2, e2, _, _⟩ := DataW.trod_int Try.underlying3 g2
      obtain ⟨n4, e4, _, _⟩ := DataW.trod_int Try.underlying3 g4
      obtain ⟨n5, e5, _, _⟩ := DataW.trod_int Try.underlying3 g5
      obtain ⟨n6, e6, _, _⟩ := DataW.trod_int Try.underlying3 g6
      obtain ⟨n7, e7, _, _⟩ := DataW.trod_int Try.underlying3 g7
      obtain ⟨n8, e8, _, _⟩ := DataW.trod_int Try.underlying3 g8
      obtain ⟨n9, e9, _, _⟩ := DataW.trod_int Try.underlying3 g9
      obtain ⟨A3, len3, cap3, l3, e3, h3, hl3, hC3⟩ := open_row23 g3
      cases e0; cases e1; cases e2; cases e3; cases e4; cases e5; cases e6; cases e7; cases e8; cases e9
      subst hl3
      exact ⟨⟨n0, n1, n2, l3, n4, n5, n6, n7, n8, n9⟩, k25_mk w ⟨n0, n1, n2, l3, n4, n5, n6, n7, n8, n9⟩ h3 hC3⟩
set_option maxRecDepth 100000 in
theorem open_row22 {fuel : Nat} {cs : List Value} {x : DataW H × List MemPlace} (h : DataW.trod enc Try.prog w base spare held fuel 22 cs = some x) : ∃ (A : Option Addr) (n c : Nat) (xs : List S25), cs = [.slice A n c] ∧ n ≤ c ∧ xs.length = n ∧ k25.C w A n xs :=
  open_row k25 z25 Try.underlying22 (by kernel_rfl) open_el25 h
set_option maxRecDepth 100000 in
theorem open_el71 (m : Nat) (c : List Value) (y : DataW H × List MemPlace) (hc : c.length = k71.sz) (h : DataW.trod enc Try.prog w base spare held m 71 c = some y) : ∃ p : S71, k71.K w p c := by
  obtain ⟨xs, k, _, _, _, hxl, hf⟩ := DataW.trod_struct Try.underlying71 h
  have hc2 : c.length = 2 := hc
  have c3 : Try.prog.cellsOf 3 = 1 := by kernel_rfl
  match c, hc2 with
  | [v0, v1], _ =>
    match xs, hxl with
    | [y0, y1], _ =>
      have g0 := hf 0 _ rfl
      have g1 := hf 1 _ rfl
      simp [c3] at g0 g1
      obtain ⟨n0, e0, _, _⟩ := DataW.trod_int Try.underlying3 g0
      obtain ⟨n1, e1, _, _⟩ := DataW.trod_int Try.underlying3 g1
      cases e0; cases e1
      exact ⟨⟨n0, n1⟩, k71_mk w ⟨n0, n1⟩⟩
set_option maxRecDepth 100000 in
theorem open_row46 {fuel : Nat} {cs : List Value} {x : DataW H × List MemPlace} (h : DataW.trod enc Try.prog w base spare held fuel 46 cs = some x) : ∃ (A : Option Addr) (n c : Nat) (xs : List S71), cs = [.slice A n c] ∧ n ≤ c ∧ xs.length = n ∧ k71.C w A n xs :=
  open_row k71 z71 Try.underlying46 (by kernel_rfl) open_el71 h
set_option maxRecDepth 100000 in
/-- a struct of a number and captures -/
theorem open_spies {fuel : Nat} {c : List Value} {x : DataW H × List MemPlace} (hc : c.length = 2) (h : DataW.trod enc Try.prog w base spare held fuel 48 c = some x) : ∃ (bad : Int) (A : Option Addr) (n cc : Nat) (xs : List S71), c = [.int .i64 bad, .slice A n cc] ∧ n ≤ cc ∧ xs.length = n ∧ k71.C w A n xs := by
  obtain ⟨xs, k, _, _, _, hxl, hf⟩ := DataW.trod_struct Try.underlying48 h
  have c3 : Try.prog.cellsOf 3 = 1 := by kernel_rfl
  have c46 : Try.prog.cellsOf 46 = 1 := by kernel_rfl
  match c, hc with
  | [v0, v1], _ =>
    match xs, hxl with
    | [y0, y1], _ =>
      have g0 := hf 0 _ rfl
      have g1 := hf 1 _ rfl
      simp [c3, c46] at g0 g1
      obtain ⟨n0, e0, _, _⟩ := DataW.trod_int Try.underlying3 g0
      obtain ⟨A, n, cc, l, e1, h1, h2, h3⟩ := open_row46 g1
      cases e0; cases e1
      exact ⟨n0, A, n, cc, l, rfl, h1, h2, h3⟩
set_option maxRecDepth 100000 in
/-- n numbers in a row -/
theorem open_spies0 {fuel : Nat} {c : List Value} {x : DataW H × List MemPlace} (h : DataW.trod enc Try.prog w base spare held fuel 48 c = some x) : ∃ (bad : Int) (A : Option Addr) (n cc : Nat) (xs : List S71), c = [.int .i64 bad, .slice A n cc] ∧ n ≤ cc ∧ xs.length = n ∧ k71.C w A n xs := by
  obtain ⟨_, _, _, _, hl, _, _⟩ := DataW.trod_struct Try.underlying48 h
  have c48 : Try.prog.cellsOf 48 = 2 := by kernel_rfl
  exact open_spies (hl.trans c48) h
set_option maxRecDepth 100000 in
theorem open_three {fuel : Nat} {c : List Value} {x : DataW H × List MemPlace} (h : DataW.trod enc Try.prog w base spare held fuel 26 c = some x) : ∃ a b d : Int, c = [.int .i64 a, .int .i64 b, .int .i64 d] := by
  obtain ⟨xs, m, _, _, hc, hl, hel⟩ := DataW.trod_array Try.underlying26 h
  have c3 : Try.prog.cellsOf 3 = 1 := by kernel_rfl
  have hc3 : c.length = 3 := hc.trans (by kernel_rfl)
  match c, hc3 with
  | [v0, v1, v2], _ =>
    match xs, hl with
    | [y0, y1, y2], _ =>
      have g0 := hel 0 (by omega)
      have g1 := hel 1 (by omega)
      have g2 := hel 2 (by omega)
      simp [c3] at g0 g1 g2
      obtain ⟨n0, e0, _, _⟩ := DataW.trod_int Try.underlying3 g0
      obtain ⟨n1, e1, _, _⟩ := DataW.trod_int Try.underlying3 g1
      obtain ⟨n2, e2, _, _⟩ := DataW.trod_int Try.underlying3 g2
      cases e0; cases e1; cases e2
      exact ⟨n0, n1, n2, rfl⟩
set_option maxRecDepth 100000 in
theorem open_four {fuel : Nat} {c : List Value} {x : DataW H × List MemPlace} (h : DataW.trod enc Try.prog w base spare held fuel 69 c = some x) : ∃ a b d e : Int, c = [.int .i64 a, .int .i64 b, .int .i64 d, .int .i64 e] := by
  obtain ⟨xs, m, _, _, hc, hl, hel⟩ := DataW.trod_array Try.underlying69 h
  have c3 : Try.prog.cellsOf 3 = 1 := by kernel_rfl
  have hc4 : c.length = 4 := hc.trans (by kernel_rfl)
  match c, hc4 with
  | [v0, v1, v2, v3], _ =>
    match xs, hl with
    | [y0, y1, y2, y3], _ =>
      have g0 := hel 0 (by omega)
      have g1 := hel 1 (by omega)
      have g2 := hel 2 (by omega)
      have g3 := hel 3 (by omega)
      simp [c3] at g0 g1 g2 g3
      obtain ⟨n0, e0, _, _⟩ := DataW.trod_int Try.underlying3 g0
      obtain ⟨n1, e1, _, _⟩ := DataW.trod_int Try.underlying3 g1
      obtain ⟨n2, e2, _, _⟩ := DataW.trod_int Try.underlying3 g2
      obtain ⟨n3, e3, _, _⟩ := DataW.trod_int Try.underlying3 g3
      cases e0; cases e1; cases e2; cases e3
      exact ⟨n0, n1, n2, n3, rfl⟩
set_option maxRecDepth 100000 in
theorem open_two48 {fuel : Nat} {c : List Value} {x : DataW H × List MemPlace} (h : DataW.trod enc Try.prog w base spare held fuel 73 c = some x) : ∃ (b1 b2 : Int) (A1 A2 : Option Addr) (n1 n2 c1 c2 : Nat) (x1 x2 : List S71),
    c = [.int .i64 b1, .slice A1 n1 c1, .int .i64 b2, .slice A2 n2 c2] ∧ n1 ≤ c1 ∧ x1.length = n1 ∧ k71.C w A1 n1 x1 ∧ n2 ≤ c2 ∧ x2.length = n2 ∧ k71.C w A2 n2 x2 := by
  obtain ⟨xs, m, _, _, hc, hl, hel⟩ := DataW.trod_array Try.underlying73 h
  have c48 : Try.prog.cellsOf 48 = 2 := by kernel_rfl
  have hc4 : c.length = 4 := hc.trans (by kernel_rfl)
  match c, hc4 with
  | [v0, v1, v2, v3], _ =>
    match xs, hl with
    | [y0, y1], _ =>
      have g0 := hel 0 (by omega)
      have g1 := hel 1 (by omega)
      simp [c48] at g0 g1
      obtain ⟨b1, A1, n1, c1, x1, e1, p1, q1, r1⟩ := open_spies rfl g0
      obtain ⟨b2, A2, n2, c2, x2, e2, p2, q2, r2⟩ := open_spies rfl g1
      cases e1; cases e2
      exact ⟨b1, b2, A1, A2, n1, n2, c1, c2, x1, x2, rfl, p1, q1, r1, p2, q2, r2⟩
end
end Go.Proofs.Ytlelhmephibfjaa.T
