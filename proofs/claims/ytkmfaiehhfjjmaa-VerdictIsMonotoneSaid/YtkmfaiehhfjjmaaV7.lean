/- The machine side of the functions that this claim reaches: each Go function as a plain Lean function with its proof, written by a program of this session over the kit's printer, with contracts proved by hand. -/
import Derived.Test.YtkmfaiehhfjjmaaV0
import Derived.Test.YtkmfaiehhfjjmaaV2
import Derived.Test.YtkmfaiehhfjjmaaV3
namespace Go.Proofs.Ytkmfaiehhfjjmaa.V
open Go.RowKit Go.Proofs.YtkmfaiehhfjjmaaW.PrintWords Go.Proofs.YtkmfaiehhfjjmaaW.PrintLast Go.Proofs.YtkmfaiehhfjjmaaW.PrintMore
attribute [local go_sem] max2_int min2_int max_two min_two max_three min_three max_four min_four   -- for this text's walks alone
set_option linter.unusedVariables false
set_option linter.unusedSimpArgs false

/-! ### quietuslaw46_number: function 29 -/
def quietuslaw46_number.f (a0 : Int) (a1 : Int) (a2 : Int) : Option (Bool) := if a1 = 0 then (some (a0 == a2)) else (some false)
set_option maxHeartbeats 8000000 in
set_option maxRecDepth 100000 in
theorem quietuslaw46_number.calls (a0 : Int) (a1 : Int) (a2 : Int) (r : Bool) (w : World) (h : quietuslaw46_number.f a0 a1 a2 = some r) :
    Calls Try.prog 29 #[.int .i64 a0, .int .i64 a1, .int .i64 a2] w fun e w' => e = .returned (.bool r) ∧ Drawn0 w w' := by
  have H : (if a1 = 0 then (some (a0 == a2)) else (some false)) = some r := h
  clear h
  by_cases c4 : a1 = 0
  · rw [if_pos c4] at H
    have c4b0 : (a1 == 0) = true := beq_iff_eq.mpr c4
    have c4b1 : (a1 != 0) = false := bne_eq_false_iff_eq.mpr c4
    clear c4
    obtain rfl := Option.some.inj H
    go_enter Try.func29, Try.ntmps29
    go_wp2
    go_ret
    exact ⟨by first | rfl | (simp; done) | (simp [*]; done), by repeat (first | exact Drawn0.refl _ | apply Drawn0.step)⟩
  · rw [if_neg c4] at H
    have c4b0 : (a1 == 0) = false := beq_eq_false_iff_ne.mpr c4
    have c4b1 : (a1 != 0) = true := bne_iff_ne.mpr c4
    obtain rfl := Option.some.inj H
    go_enter Try.func29, Try.ntmps29
    go_wp2
    go_ret
    exact ⟨by first | rfl | (simp; done) | (simp [*]; done), by repeat (first | exact Drawn0.refl _ | apply Drawn0.step)⟩

/-! ### quietuslaw46_sanity: function 16 -/
theorem low_of {w w1 w2 : World} (h : Below w.heap.size w w1) (k : Drawn0 w1 w2) : Below w.heap.size w w2 := below_step h k.below
theorem num_ok (a : Int) (w : World) : Calls Try.prog 29 #[.int .i64 a, .int .i64 0, .int .i64 a] w fun e w' => e = .returned (.bool true) ∧ Drawn0 w w' :=
  quietuslaw46_number.calls a 0 a true w (by simp [quietuslaw46_number.f])
theorem s_c1 : verdict_Choose.f 100 5 2 = some (10, 0) := by decide +kernel
theorem s_c2 : verdict_Choose.f 100 60 30 = some (118264581564861424, 0) := by decide +kernel
theorem s_c3 : verdict_Choose.f 100 3 4 = some (0, 0) := by decide +kernel
theorem s_c4 : verdict_Choose.f 100 61 1 = some (0, 2) := by decide +kernel
theorem s_m1 : verdict_Miss.f 100 10 2 3 = some (7, 15, 0) := by decide +kernel
theorem s_m2 : verdict_Miss.f 100 10 2 9 = some (0, 1, 0) := by decide +kernel
theorem s_m3 : verdict_Miss.f 100 10 0 3 = some (1, 1, 0) := by decide +kernel
theorem s_e1 : verdict_Enough.f 100 10 2 3 1 2 = some (true, 0) := by decide +kernel
theorem s_e2 : verdict_Enough.f 100 10 2 3 3 10 = some (false, 0) := by decide +kernel
theorem s_e3 : verdict_Enough.f 100 10 2 3 3 9 = some (true, 0) := by decide +kernel
theorem s_l1 : verdict_Least.f 100 10 2 2 = some (3, 0) := by decide +kernel
theorem s_l2 : verdict_Least.f 100 10 2 100 = some (9, 0) := by decide +kernel
theorem s_r1 : verdict_Rounds.f 100 10 2 3 20 = some (4, 0) := by decide +kernel
theorem s_r2 : verdict_Rounds.f 100 10 2 3 100 = some (0, 8) := by decide +kernel
theorem s_r3 : verdict_Rounds.f 100 10 0 3 2 = some (0, 8) := by decide +kernel
def quietuslaw46_sanity.f : Option Bool := some true
set_option maxHeartbeats 8000000 in
set_option maxRecDepth 100000 in
theorem quietuslaw46_sanity.calls (r : Bool) (w : World) (h : quietuslaw46_sanity.f = some r) : Calls Try.prog 16 #[] w fun e w' => e = .returned (.bool r) ∧ Below w.heap.size w w' := by
  obtain rfl := Option.some.inj h
  clear h
  have HB := Aside0.mk (Below.refl w.heap.size w)
  go_enter Try.func16, Try.ntmps16
  go_wp2_with fail
  refine (verdict_Choose.calls _ _ _ _ _ _ s_c1).mono ?_
  rintro e w1 ⟨rfl, h1⟩
  replace HB := Aside0.mk (below_step HB.out h1)
  clear h1
  go_wp2_with fail
  refine (verdict_Choose.calls _ _ _ _ _ _ s_c2).mono ?_
  rintro e w2 ⟨rfl, h1⟩
  replace HB := Aside0.mk (below_step HB.out h1)
  clear h1
  go_wp2_with fail
  refine (verdict_Choose.calls _ _ _ _ _ _ s_c3).mono ?_
  rintro e w3 ⟨rfl, h1⟩
  replace HB := Aside0.mk (below_step HB.out h1)
  clear h1
  go_wp2_with fail
  refine (verdict_Choose.calls _ _ _ _ _ _ s_c4).mono ?_
  rintro e w4 ⟨rfl, h1⟩
  replace HB := Aside0.mk (below_step HB.out h1)
  clear h1
  go_wp2_with fail
  refine (verdict_Miss.calls _ _ _ _ _ _ _ _ s_m1).mono ?_
  rintro e w5 ⟨rfl, h1⟩
  replace HB := Aside0.mk (below_step HB.out h1)
  clear h1
  go_wp2_with fail
  refine (verdict_Miss.calls _ _ _ _ _ _ _ _ s_m2).mono ?_
  rintro e w6 ⟨rfl, h1⟩
  replace HB := Aside0.mk (below_step HB.out h1)
  clear h1
  go_wp2_with fail
  refine (verdict_Miss.calls _ _ _ _ _ _ _ _ s_m3).mono ?_
  rintro e w7 ⟨rfl, h1⟩
  replace HB := Aside0.mk (below_step HB.out h1)
  clear h1
  go_wp2_with (go_at_call 29; refine (num_ok _ _).mono ?_; rintro e w8 ⟨rfl, h1⟩; replace HB := Aside0.mk (low_of HB.out h1); clear h1)
  refine (verdict_Enough.calls _ _ _ _ _ _ _ _ _ s_e1).mono ?_
  rintro e w9 ⟨rfl, h1⟩
  replace HB := Aside0.mk (below_step HB.out h1)
  clear h1
  go_wp2_with fail
  refine (verdict_Enough.calls _ _ _ _ _ _ _ _ _ s_e2).mono ?_
  rintro e w10 ⟨rfl, h1⟩
  replace HB := Aside0.mk (below_step HB.out h1)
  clear h1
  go_wp2_with fail
  refine (verdict_Enough.calls _ _ _ _ _ _ _ _ _ s_e3).mono ?_
  rintro e w11 ⟨rfl, h1⟩
  replace HB := Aside0.mk (below_step HB.out h1)
  clear h1
  go_wp2_with fail
  refine (verdict_Least.calls _ _ _ _ _ _ _ s_l1).mono ?_
  rintro e w12 ⟨rfl, h1⟩
  replace HB := Aside0.mk (below_step HB.out h1)
  clear h1
  go_wp2_with fail
  refine (verdict_Least.calls _ _ _ _ _ _ _ s_l2).mono ?_
  rintro e w13 ⟨rfl, h1⟩
  replace HB := Aside0.mk (below_step HB.out h1)
  clear h1
  go_wp2_with fail
  refine (verdict_Rounds.calls _ _ _ _ _ _ _ _ s_r1).mono ?_
  rintro e w14 ⟨rfl, h1⟩
  replace HB := Aside0.mk (below_step HB.out h1)
  clear h1
  go_wp2_with fail
  refine (verdict_Rounds.calls _ _ _ _ _ _ _ _ s_r2).mono ?_
  rintro e w15 ⟨rfl, h1⟩
  replace HB := Aside0.mk (below_step HB.out h1)
  clear h1
  go_wp2_with fail
  refine (verdict_Rounds.calls _ _ _ _ _ _ _ _ s_r3).mono ?_
  rintro e w16 ⟨rfl, h1⟩
  replace HB := Aside0.mk (below_step HB.out h1)
  clear h1
  go_wp2_with (go_at_call 29; refine (num_ok _ _).mono ?_; rintro e w8 ⟨rfl, h1⟩; replace HB := Aside0.mk (low_of HB.out h1); clear h1)
  go_ret
  exact ⟨rfl, HB.out⟩

/-! ### quietusref07_Count: function 17 -/
def quietusref07_Count.l0 : Nat → Int → Int → Option (Int)
  | 0, _, _ => none
  | k + 1, x0, x3 => if x0 > 0 then (quietusref07_Count.l0 k (wrap64 (Int.tdiv x0 2)) (wrap64 (x3 + (Int.tmod x0 2)))) else (some x3)
def quietusref07_Count.f (k : Nat) (a0 : Int) : Option (Int) := quietusref07_Count.l0 k a0 0
theorem quietusref07_Count.mono_l : ∀ k, (∀ y0 y1, LeO (quietusref07_Count.l0 k y0 y1) (quietusref07_Count.l0 (k + 1) y0 y1))
  | 0 => fun _ _ r h => by simp [quietusref07_Count.l0] at h
  | k + 1 => by
    have ih0 := quietusref07_Count.mono_l k
    · intro y0 y1
      unfold quietusref07_Count.l0
      repeat' first
      | (with_reducible exact ih0 _ _)
      | (with_reducible exact LeO.refl _)
      | (with_reducible exact LeO.none _)
      | (with_reducible refine LeO.ite ?_ ?_)
      | (with_reducible refine LeO.bind ?_ (fun _ => ?_))
      | exact ih0 _ _
      | exact LeO.none _
      | refine LeO.ite ?_ ?_
      | refine LeO.bind ?_ (fun _ => ?_)
theorem quietusref07_Count.mono : ∀ a0 k, LeO (quietusref07_Count.f k a0) (quietusref07_Count.f (k + 1) a0) := by
  intro a0 k
  have ih0 := quietusref07_Count.mono_l k
  unfold quietusref07_Count.f
  repeat' first
      | (with_reducible exact ih0 _ _)
      | (with_reducible exact LeO.refl _)
      | (with_reducible exact LeO.none _)
      | (with_reducible refine LeO.ite ?_ ?_)
      | (with_reducible refine LeO.bind ?_ (fun _ => ?_))
      | exact ih0 _ _
      | exact LeO.none _
      | refine LeO.ite ?_ ?_
      | refine LeO.bind ?_ (fun _ => ?_)
set_option maxHeartbeats 8000000 in
set_option maxRecDepth 100000 in
theorem quietusref07_Count.calls (k : Nat) (a0 : Int) (r : Int) (w : World) (h : quietusref07_Count.f k a0 = some r) :
    Calls Try.prog 17 #[.int .i64 a0] w fun e w' => e = .returned (.int .i64 r) ∧ Drawn0 w w' := by
  have H : (quietusref07_Count.l0 k a0 0) = some r := h
  clear h
  have H' := Aside0.mk H
  clear H
  go_enter Try.func17, Try.ntmps17
  go_wp2
  go_loopg [0, 3] k (fun kq v0 v3 w' => ∃ (x0_1 : Int) (x3_1 : Int), v0 = .int .i64 x0_1 ∧ v3 = .int .i64 x3_1 ∧ Aside0 (quietusref07_Count.l0 kq x0_1 x3_1 = some r) ∧ Aside0 (kq ≤ k) ∧ Drawn0 w w')
  case atStart => exact ⟨(a0), (0), (by first | rfl | (simp; done) | (simp [*]; done)), (by first | rfl | (simp; done) | (simp [*]; done)), H', ⟨Nat.le_refl _⟩, by repeat (first | exact Drawn0.refl _ | apply Drawn0.step)⟩
  case round =>
    clear H'
    try clear c1
    obtain ⟨x0_1, x3_1, rfl, rfl, HA, HK1, ⟨m1, rfl⟩⟩ := hrel
    cases gk with
    | zero => exact absurd HA.out (by simp [quietusref07_Count.l0])
    | succ k1 =>
      have H := HA.out
      clear HA
      simp only [quietusref07_Count.l0] at H
      by_cases c2 : x0_1 > 0
      · rw [if_pos c2] at H
        have c2b0 : decide (0 < x0_1) = true := decide_eq_true c2
        clear c2
        have H' := Aside0.mk H
        clear H
        go_wp2
        go_roundg k1
        case measure => have := HK1.out; omega
        case rel => exact ⟨(wrap64 (Int.tdiv x0_1 2)), (wrap64 (x3_1 + (Int.tmod x0_1 2))), (by first | rfl | (simp; done) | (simp [*]; done)), (by first | rfl | (simp; done) | (simp [*]; done)), H', ⟨by have := HK1.out; omega⟩, by repeat (first | exact Drawn0.refl _ | apply Drawn0.step)⟩
      · rw [if_neg c2] at H
        have c2b0 : decide (0 < x0_1) = false := decide_eq_false c2
        clear c2
        obtain rfl := Option.some.inj H
        go_wp2
        go_ret
        exact ⟨by first | rfl | (simp; done) | (simp [*]; done), by repeat (first | exact Drawn0.refl _ | apply Drawn0.step)⟩

/-! ### quietuslaw46_VerdictCountsSets: function 4 -/
mutual
def quietuslaw46_VerdictCountsSets.l0 : Nat → Int → Int → Int → Int → Int → Int → Int → Option (Bool)
  | 0, _, _, _, _, _, _, _ => none
  | k + 1, x7, x8, x9, x10, x11, x39, x40 => if x40 < x39 then ((quietusref07_Count.f k x40).bind fun t180 => (if t180 = x9 then (if (Go.bits .and .i64 x40 x8) = 0 then (quietuslaw46_VerdictCountsSets.l0 k x7 x8 x9 (wrap64 (x10 + 1)) (wrap64 (x11 + 1)) x39 (wrap64 (x40 + 1))) else (quietuslaw46_VerdictCountsSets.l0 k x7 x8 x9 (wrap64 (x10 + 1)) x11 x39 (wrap64 (x40 + 1)))) else (quietuslaw46_VerdictCountsSets.l0 k x7 x8 x9 x10 x11 x39 (wrap64 (x40 + 1))))) else ((quietusref07_Count.f k x8).bind fun t181 => ((verdict_Miss.f k x7 t181 x9).bind fun bt182 => ((verdict_Choose.f k x7 x9).bind fun bt185 => (if bt182.2.2 = 0 then (if bt185.2 = 0 then (if bt182.2.1 < 1 then (quietuslaw46_VerdictCountsSets.j1 k x7 x8 x9 x10 x11 true) else (if (wrap64 (bt182.1 * x10)) = (wrap64 (bt182.2.1 * x11)) then (quietuslaw46_VerdictCountsSets.j1 k x7 x8 x9 x10 x11 (bt185.1 != x10)) else (quietuslaw46_VerdictCountsSets.j1 k x7 x8 x9 x10 x11 true))) else (quietuslaw46_VerdictCountsSets.j1 k x7 x8 x9 x10 x11 true)) else (quietuslaw46_VerdictCountsSets.j1 k x7 x8 x9 x10 x11 true)))))
def quietuslaw46_VerdictCountsSets.j1 : Nat → Int → Int → Int → Int → Int → Bool → Option (Bool)
  | 0, _, _, _, _, _, _ => none
  | k + 1, x7, x8, x9, x10, x11, x94 => if x94 = true then (some false) else (if x7 > 6 then ((quietuslaw46_sanity.f).bind fun t187 => (some t187)) else ((some (([1, 2, 5, 20, 400] : List Int) : List Int)).bind fun y188 => (quietuslaw46_VerdictCountsSets.l1 k x7 x8 x9 (wrap64 (x10 * x10)) (wrap64 (x11 * x11)) y188 (y188.length : Int) 0)))
def quietuslaw46_VerdictCountsSets.l1 : Nat → Int → Int → Int → Int → Int → List Int → Int → Int → Option (Bool)
  | 0, _, _, _, _, _, _, _, _ => none
  | k + 1, x7, x8, x9, x18, x19, x104, x105, x106 => if x106 < x105 then (if 0 ≤ x106 then (if x106 < (x104.length : Int) then ((quietusref07_Count.f k x8).bind fun t193 => ((verdict_Enough.f k x7 t193 x9 2 (rd x104 x106)).bind fun bt194 => (if bt194.2 = 0 then (if (bt194.1 != (decide ((wrap64 ((rd x104 x106) * x19)) ≤ x18))) = true then (some false) else (quietuslaw46_VerdictCountsSets.l1 k x7 x8 x9 x18 x19 x104 x105 (wrap64 (x106 + 1)))) else (some false)))) else (none)) else (none)) else ((quietuslaw46_sanity.f).bind fun t191 => (some t191))
end
def quietuslaw46_VerdictCountsSets.f (k : Nat) (a0 : Int) (a1 : Int) (a2 : Int) : Option (Bool) := if 0 ≤ (wrap64 (1 + (Int.tmod (wrap64 (a0)) 12))) then (if (shl .i64 1 (wrap64 (1 + (Int.tmod (wrap64 (a0)) 12)))) = 0 then (none) else (if (wrap64 ((wrap64 (1 + (Int.tmod (wrap64 (a0)) 12))) + 1)) = 0 then (none) else (quietuslaw46_VerdictCountsSets.l0 k (wrap64 (1 + (Int.tmod (wrap64 (a0)) 12))) (Int.tmod (wrap64 (a1)) (shl .i64 1 (wrap64 (1 + (Int.tmod (wrap64 (a0)) 12))))) (Int.tmod (wrap64 (a2)) (wrap64 ((wrap64 (1 + (Int.tmod (wrap64 (a0)) 12))) + 1))) 0 0 (shl .i64 1 (wrap64 (1 + (Int.tmod (wrap64 (a0)) 12)))) 0))) else (none)
theorem quietuslaw46_VerdictCountsSets.mono_l : ∀ k, (∀ y0 y1 y2 y3 y4 y5 y6, LeO (quietuslaw46_VerdictCountsSets.l0 k y0 y1 y2 y3 y4 y5 y6) (quietuslaw46_VerdictCountsSets.l0 (k + 1) y0 y1 y2 y3 y4 y5 y6)) ∧ (∀ y0 y1 y2 y3 y4 y5, LeO (quietuslaw46_VerdictCountsSets.j1 k y0 y1 y2 y3 y4 y5) (quietuslaw46_VerdictCountsSets.j1 (k + 1) y0 y1 y2 y3 y4 y5)) ∧ (∀ y0 y1 y2 y3 y4 y5 y6 y7, LeO (quietuslaw46_VerdictCountsSets.l1 k y0 y1 y2 y3 y4 y5 y6 y7) (quietuslaw46_VerdictCountsSets.l1 (k + 1) y0 y1 y2 y3 y4 y5 y6 y7))
  | 0 => ⟨fun _ _ _ _ _ _ _ r h => by simp [quietuslaw46_VerdictCountsSets.l0] at h, fun _ _ _ _ _ _ r h => by simp [quietuslaw46_VerdictCountsSets.j1] at h, fun _ _ _ _ _ _ _ _ r h => by simp [quietuslaw46_VerdictCountsSets.l1] at h⟩
  | k + 1 => by
    obtain ⟨ih0, ih1, ih2⟩ := quietuslaw46_VerdictCountsSets.mono_l k
    refine ⟨?_, ?_, ?_⟩
    · intro y0 y1 y2 y3 y4 y5 y6
      unfold quietuslaw46_VerdictCountsSets.l0
      repeat' first
      | (with_reducible exact ih0 _ _ _ _ _ _ _)
      | (with_reducible exact ih1 _ _ _ _ _ _)
      | (with_reducible exact ih2 _ _ _ _ _ _ _ _)
      | (with_reducible exact quietusref07_Count.mono _ _)
      | (with_reducible exact verdict_Choose.mono _ _ _)
      | (with_reducible exact verdict_Enough.mono _ _ _ _ _ _)
      | (with_reducible exact verdict_Miss.mono _ _ _ _)
      | (with_reducible exact LeO.refl _)
      | (with_reducible exact LeO.none _)
      | (with_reducible refine LeO.ite ?_ ?_)
      | (with_reducible refine LeO.bind ?_ (fun _ => ?_))
      | exact ih0 _ _ _ _ _ _ _
      | exact ih1 _ _ _ _ _ _
      | exact ih2 _ _ _ _ _ _ _ _
      | exact quietusref07_Count.mono _ _
      | exact verdict_Choose.mono _ _ _
      | exact verdict_Enough.mono _ _ _ _ _ _
      | exact verdict_Miss.mono _ _ _ _
      | exact LeO.none _
      | refine LeO.ite ?_ ?_
      | refine LeO.bind ?_ (fun _ => ?_)
    · intro y0 y1 y2 y3 y4 y5
      unfold quietuslaw46_VerdictCountsSets.j1
      repeat' first
      | (with_reducible exact ih0 _ _ _ _ _ _ _)
      | (with_reducible exact ih1 _ _ _ _ _ _)
      | (with_reducible exact ih2 _ _ _ _ _ _ _ _)
      | (with_reducible exact quietusref07_Count.mono _ _)
      | (with_reducible exact verdict_Choose.mono _ _ _)
      | (with_reducible exact verdict_Enough.mono _ _ _ _ _ _)
      | (with_reducible exact verdict_Miss.mono _ _ _ _)
      | (with_reducible exact LeO.refl _)
      | (with_reducible exact LeO.none _)
      | (with_reducible refine LeO.ite ?_ ?_)
      | (with_reducible refine LeO.bind ?_ (fun _ => ?_))
      | exact ih0 _ _ _ _ _ _ _
      | exact ih1 _ _ _ _ _ _
      | exact ih2 _ _ _ _ _ _ _ _
      | exact quietusref07_Count.mono _ _
      | exact verdict_Choose.mono _ _ _
      | exact verdict_Enough.mono _ _ _ _ _ _
      | exact verdict_Miss.mono _ _ _ _
      | exact LeO.none _
      | refine LeO.ite ?_ ?_
      | refine LeO.bind ?_ (fun _ => ?_)
    · intro y0 y1 y2 y3 y4 y5 y6 y7
      unfold quietuslaw46_VerdictCountsSets.l1
      repeat' first
      | (with_reducible exact ih0 _ _ _ _ _ _ _)
      | (with_reducible exact ih1 _ _ _ _ _ _)
      | (with_reducible exact ih2 _ _ _ _ _ _ _ _)
      | (with_reducible exact quietusref07_Count.mono _ _)
      | (with_reducible exact verdict_Choose.mono _ _ _)
      | (with_reducible exact verdict_Enough.mono _ _ _ _ _ _)
      | (with_reducible exact verdict_Miss.mono _ _ _ _)
      | (with_reducible exact LeO.refl _)
      | (with_reducible exact LeO.none _)
      | (with_reducible refine LeO.ite ?_ ?_)
      | (with_reducible refine LeO.bind ?_ (fun _ => ?_))
      | exact ih0 _ _ _ _ _ _ _
      | exact ih1 _ _ _ _ _ _
      | exact ih2 _ _ _ _ _ _ _ _
      | exact quietusref07_Count.mono _ _
      | exact verdict_Choose.mono _ _ _
      | exact verdict_Enough.mono _ _ _ _ _ _
      | exact verdict_Miss.mono _ _ _ _
      | exact LeO.none _
      | refine LeO.ite ?_ ?_
      | refine LeO.bind ?_ (fun _ => ?_)
theorem quietuslaw46_VerdictCountsSets.mono : ∀ a0 a1 a2 k, LeO (quietuslaw46_VerdictCountsSets.f k a0 a1 a2) (quietuslaw46_VerdictCountsSets.f (k + 1) a0 a1 a2) := by
  intro a0 a1 a2 k
  obtain ⟨ih0, ih1, ih2⟩ := quietuslaw46_VerdictCountsSets.mono_l k
  unfold quietuslaw46_VerdictCountsSets.f
  repeat' first
      | (with_reducible exact ih0 _ _ _ _ _ _ _)
      | (with_reducible exact ih1 _ _ _ _ _ _)
      | (with_reducible exact ih2 _ _ _ _ _ _ _ _)
      | (with_reducible exact quietusref07_Count.mono _ _)
      | (with_reducible exact verdict_Choose.mono _ _ _)
      | (with_reducible exact verdict_Enough.mono _ _ _ _ _ _)
      | (with_reducible exact verdict_Miss.mono _ _ _ _)
      | (with_reducible exact LeO.refl _)
      | (with_reducible exact LeO.none _)
      | (with_reducible refine LeO.ite ?_ ?_)
      | (with_reducible refine LeO.bind ?_ (fun _ => ?_))
      | exact ih0 _ _ _ _ _ _ _
      | exact ih1 _ _ _ _ _ _
      | exact ih2 _ _ _ _ _ _ _ _
      | exact quietusref07_Count.mono _ _
      | exact verdict_Choose.mono _ _ _
      | exact verdict_Enough.mono _ _ _ _ _ _
      | exact verdict_Miss.mono _ _ _ _
      | exact LeO.none _
      | refine LeO.ite ?_ ?_
      | refine LeO.bind ?_ (fun _ => ?_)
set_option maxHeartbeats 8000000 in
set_option maxRecDepth 100000 in
theorem quietuslaw46_VerdictCountsSets.calls (k : Nat) (a0 : Int) (a1 : Int) (a2 : Int) (r : Bool) (w : World) (h : quietuslaw46_VerdictCountsSets.f k a0 a1 a2 = some r) :
    Calls Try.prog 4 #[.int .u8 a0, .int .u16 a1, .int .u8 a2] w fun e w' => e = .returned (.bool r) ∧ Below w.heap.size w w' := by
  have HB := Aside0.mk (Below.refl w.heap.size w)
  have H : (if 0 ≤ (wrap64 (1 + (Int.tmod (wrap64 (a0)) 12))) then (if (shl .i64 1 (wrap64 (1 + (Int.tmod (wrap64 (a0)) 12)))) = 0 then (none) else (if (wrap64 ((wrap64 (1 + (Int.tmod (wrap64 (a0)) 12))) + 1)) = 0 then (none) else (quietuslaw46_VerdictCountsSets.l0 k (wrap64 (1 + (Int.tmod (wrap64 (a0)) 12))) (Int.tmod (wrap64 (a1)) (shl .i64 1 (wrap64 (1 + (Int.tmod (wrap64 (a0)) 12))))) (Int.tmod (wrap64 (a2)) (wrap64 ((wrap64 (1 + (Int.tmod (wrap64 (a0)) 12))) + 1))) 0 0 (shl .i64 1 (wrap64 (1 + (Int.tmod (wrap64 (a0)) 12)))) 0))) else (none)) = some r := h
  clear h
  obtain ⟨ji4, hji4⟩ : ∃ j_ : Int, (wrap64 (1 + (Int.tmod (wrap64 (a0)) 12))) = j_ := ⟨_, rfl⟩
  replace H : (if 0 ≤ (ji4) then (if (shl .i64 1 (ji4)) = 0 then (none) else (if (wrap64 ((ji4) + 1)) = 0 then (none) else (quietuslaw46_VerdictCountsSets.l0 k ji4 (Int.tmod (wrap64 (a1)) (shl .i64 1 (ji4))) (Int.tmod (wrap64 (a2)) (wrap64 ((ji4) + 1))) 0 0 (shl .i64 1 (ji4)) 0))) else (none)) = some r := by first | (rw [hji4] at H; exact H) | (simp only [hji4] at H ⊢; exact H)
  have hji4w : (IntKind.i64.wrap (1 + (Int.tmod (wrap64 (a0)) 12))) = ji4 := (i64_w _).trans hji4
  by_cases c5 : 0 ≤ (ji4)
  · rw [if_pos c5] at H
    have c5b0 := eq_true c5
    have c5b1 : decide (0 ≤ (ji4)) = true := decide_eq_true c5
    clear c5
    obtain ⟨ji6, hji6⟩ : ∃ j_ : Int, (shl .i64 1 (ji4)) = j_ := ⟨_, rfl⟩
    replace H : (if (ji6) = 0 then (none) else (if (wrap64 ((ji4) + 1)) = 0 then (none) else (quietuslaw46_VerdictCountsSets.l0 k ji4 (Int.tmod (wrap64 (a1)) (ji6)) (Int.tmod (wrap64 (a2)) (wrap64 ((ji4) + 1))) 0 0 ji6 0))) = some r := by first | (rw [hji6] at H; exact H) | (simp only [hji6] at H ⊢; exact H)
    have hji6_ : (IntKind.i64.wrap (1 * 2 ^ min (ji4).toNat 64)) = ji6 := hji6
    have hji6z : (ji4) ≤ 64 → (IntKind.i64.wrap (1 * 2 ^ (ji4).toNat)) = ji6 := shl_small hji6
    have hji6u : (IntKind.i64.wrap (2 ^ min (ji4).toNat 64)) = ji6 := by have h_ := hji6_; rw [Int.one_mul] at h_; exact h_
    have hji6v : (ji4) ≤ 64 → (IntKind.i64.wrap (2 ^ (ji4).toNat)) = ji6 := fun hle_ => by have h_ := hji6z hle_; rw [Int.one_mul] at h_; exact h_
    have hji6y : (wrap64 (1 * 2 ^ min (ji4).toNat 64)) = ji6 := (i64_w _).symm.trans hji6_
    have hji6x : (ji4) ≤ 64 → (wrap64 (1 * 2 ^ (ji4).toNat)) = ji6 := fun h_ => (i64_w _).symm.trans (hji6z h_)
    by_cases c7 : (ji6) = 0
    · rw [if_pos c7] at H
      exact absurd H (by simp)
    · rw [if_neg c7] at H
      have c7b0 : ((ji6) == 0) = false := beq_eq_false_iff_ne.mpr c7
      have c7b1 : ((ji6) != 0) = true := bne_iff_ne.mpr c7
      by_cases c8 : (wrap64 ((ji4) + 1)) = 0
      · rw [if_pos c8] at H
        exact absurd H (by simp)
      · rw [if_neg c8] at H
        have c8b0 : ((wrap64 ((ji4) + 1)) == 0) = false := beq_eq_false_iff_ne.mpr c8
        have c8b1 : ((wrap64 ((ji4) + 1)) != 0) = true := bne_iff_ne.mpr c8
        have c9b0 := eq_true (of_decide_eq_true (by first | (with_reducible assumption) | assumption) : 0 ≤ (ji4))
        have H' := Aside0.mk H
        clear H
        go_enter Try.func4, Try.ntmps4
        go_wp2
        go_loopg [10, 11, 40] k (fun kq v10 v11 v40 w' => ∃ (x10_1 : Int) (x11_1 : Int) (x40_1 : Int), v10 = .int .i64 x10_1 ∧ v11 = .int .i64 x11_1 ∧ v40 = .int .i64 x40_1 ∧ Aside0 (quietuslaw46_VerdictCountsSets.l0 kq ji4 (Int.tmod (wrap64 (a1)) (ji6)) (Int.tmod (wrap64 (a2)) (wrap64 ((ji4) + 1))) x10_1 x11_1 ji6 x40_1 = some r) ∧ Aside0 (kq ≤ k) ∧ Aside0 (Below w.heap.size w w'))
        case atStart => exact ⟨(0), (0), (0), (by first | rfl | (simp; done) | (simp [*]; done)), (by first | rfl | (simp; done) | (simp [*]; done)), (by first | rfl | (simp; done) | (simp [*]; done)), H', ⟨Nat.le_refl _⟩, ⟨by repeat (first | (with_reducible first | exact HB.out | apply below_alloc | apply pw_below_drewN | apply below_drew1) | exact HB.out)⟩⟩
        case round =>
          clear H'
          try clear c1
          try clear p2
          try clear c4
          try clear c5
          try clear c5b0
          try clear c5b1
          try clear p6
          try clear c7
          try clear c7b0
          try clear c7b1
          try clear c8
          try clear c8b0
          try clear c8b1
          try clear c9
          try clear c9b0
          try clear c10
          try clear c10b0
          obtain ⟨x10_1, x11_1, x40_1, rfl, rfl, rfl, HA, HK1, HB⟩ := hrel
          cases gk with
          | zero => exact absurd HA.out (by simp [quietuslaw46_VerdictCountsSets.l0])
          | succ k1 =>
            have H := HA.out
            clear HA
            simp only [quietuslaw46_VerdictCountsSets.l0] at H
            by_cases c11 : x40_1 < ji6
            · rw [if_pos c11] at H
              have c11b0 : decide (x40_1 < ji6) = true := decide_eq_true c11
              clear c11
              replace H := Option.bind_eq_some_iff.mp H
              obtain ⟨t180, A120, H⟩ := H
              replace H : (if t180 = (Int.tmod (wrap64 (a2)) (wrap64 ((ji4) + 1))) then (if (Go.bits .and .i64 x40_1 (Int.tmod (wrap64 (a1)) (ji6))) = 0 then (quietuslaw46_VerdictCountsSets.l0 k1 ji4 (Int.tmod (wrap64 (a1)) (ji6)) (Int.tmod (wrap64 (a2)) (wrap64 ((ji4) + 1))) (wrap64 (x10_1 + 1)) (wrap64 (x11_1 + 1)) ji6 (wrap64 (x40_1 + 1))) else (quietuslaw46_VerdictCountsSets.l0 k1 ji4 (Int.tmod (wrap64 (a1)) (ji6)) (Int.tmod (wrap64 (a2)) (wrap64 ((ji4) + 1))) (wrap64 (x10_1 + 1)) x11_1 ji6 (wrap64 (x40_1 + 1)))) else (quietuslaw46_VerdictCountsSets.l0 k1 ji4 (Int.tmod (wrap64 (a1)) (ji6)) (Int.tmod (wrap64 (a2)) (wrap64 ((ji4) + 1))) x10_1 x11_1 ji6 (wrap64 (x40_1 + 1)))) = some r := H
              have A12 := Aside0.mk A120
              clear A120
              by_cases c13 : t180 = (Int.tmod (wrap64 (a2)) (wrap64 ((ji4) + 1)))
              · rw [if_pos c13] at H
                have c13b0 : (t180 == (Int.tmod (wrap64 (a2)) (wrap64 ((ji4) + 1)))) = true := beq_iff_eq.mpr c13
                have c13b1 : (t180 != (Int.tmod (wrap64 (a2)) (wrap64 ((ji4) + 1)))) = false := bne_eq_false_iff_eq.mpr c13
                clear c13
                by_cases c14 : (Go.bits .and .i64 x40_1 (Int.tmod (wrap64 (a1)) (ji6))) = 0
                · rw [if_pos c14] at H
                  have c14b0 : ((Go.bits .and .i64 x40_1 (Int.tmod (wrap64 (a1)) (ji6))) == 0) = true := beq_iff_eq.mpr c14
                  have c14b1 : ((Go.bits .and .i64 x40_1 (Int.tmod (wrap64 (a1)) (ji6))) != 0) = false := bne_eq_false_iff_eq.mpr c14
                  clear c14
                  have H' := Aside0.mk H
                  clear H
                  go_wp2_with (first | ((with_reducible refine gate_callee (f := 17) rfl ?_); refine goesL_ (some 44) rfl rfl Try.func17 (by kernel_rfl) rfl #[.int .i64 x40_1] rfl (by (try simp only [List.map_toArray, List.map_cons, List.map_nil]); first | done | rfl | (simp only [List.length_drop, List.length_take]; rfl)) ?_; (with_reducible refine (quietusref07_Count.calls k1 x40_1 t180 _ A12.out).mono ?_); rintro e w' ⟨rfl, ⟨nd, rfl⟩⟩; refine ⟨_, rfl, ?_⟩))
                  go_roundg k1
                  case measure => have := HK1.out; omega
                  case rel => exact ⟨(wrap64 (x10_1 + 1)), (wrap64 (x11_1 + 1)), (wrap64 (x40_1 + 1)), (by first | rfl | (simp; done) | (simp [*]; done)), (by first | rfl | (simp; done) | (simp [*]; done)), (by first | rfl | (simp; done) | (simp [*]; done)), H', ⟨by have := HK1.out; omega⟩, ⟨by repeat (first | (with_reducible first | exact HB.out | apply below_alloc | apply pw_below_drewN | apply below_drew1) | exact HB.out)⟩⟩
                · rw [if_neg c14] at H
                  have c14b0 : ((Go.bits .and .i64 x40_1 (Int.tmod (wrap64 (a1)) (ji6))) == 0) = false := beq_eq_false_iff_ne.mpr c14
                  have c14b1 : ((Go.bits .and .i64 x40_1 (Int.tmod (wrap64 (a1)) (ji6))) != 0) = true := bne_iff_ne.mpr c14
                  have H' := Aside0.mk H
                  clear H
                  go_wp2_with (first | ((with_reducible refine gate_callee (f := 17) rfl ?_); refine goesL_ (some 44) rfl rfl Try.func17 (by kernel_rfl) rfl #[.int .i64 x40_1] rfl (by (try simp only [List.map_toArray, List.map_cons, List.map_nil]); first | done | rfl | (simp only [List.length_drop, List.length_take]; rfl)) ?_; (with_reducible refine (quietusref07_Count.calls k1 x40_1 t180 _ A12.out).mono ?_); rintro e w' ⟨rfl, ⟨nd, rfl⟩⟩; refine ⟨_, rfl, ?_⟩))
                  go_roundg k1
                  case measure => have := HK1.out; omega
                  case rel => exact ⟨(wrap64 (x10_1 + 1)), (x11_1), (wrap64 (x40_1 + 1)), (by first | rfl | (simp; done) | (simp [*]; done)), (by first | rfl | (simp; done) | (simp [*]; done)), (by first | rfl | (simp; done) | (simp [*]; done)), H', ⟨by have := HK1.out; omega⟩, ⟨by repeat (first | (with_reducible first | exact HB.out | apply below_alloc | apply pw_below_drewN | apply below_drew1) | exact HB.out)⟩⟩
              · rw [if_neg c13] at H
                have c13b0 : (t180 == (Int.tmod (wrap64 (a2)) (wrap64 ((ji4) + 1)))) = false := beq_eq_false_iff_ne.mpr c13
                have c13b1 : (t180 != (Int.tmod (wrap64 (a2)) (wrap64 ((ji4) + 1)))) = true := bne_iff_ne.mpr c13
                have H' := Aside0.mk H
                clear H
                go_wp2_with (first | ((with_reducible refine gate_callee (f := 17) rfl ?_); refine goesL_ (some 44) rfl rfl Try.func17 (by kernel_rfl) rfl #[.int .i64 x40_1] rfl (by (try simp only [List.map_toArray, List.map_cons, List.map_nil]); first | done | rfl | (simp only [List.length_drop, List.length_take]; rfl)) ?_; (with_reducible refine (quietusref07_Count.calls k1 x40_1 t180 _ A12.out).mono ?_); rintro e w' ⟨rfl, ⟨nd, rfl⟩⟩; refine ⟨_, rfl, ?_⟩))
                go_roundg k1
                case measure => have := HK1.out; omega
                case rel => exact ⟨(x10_1), (x11_1), (wrap64 (x40_1 + 1)), (by first | rfl | (simp; done) | (simp [*]; done)), (by first | rfl | (simp; done) | (simp [*]; done)), (by first | rfl | (simp; done) | (simp [*]; done)), H', ⟨by have := HK1.out; omega⟩, ⟨by repeat (first | (with_reducible first | exact HB.out | apply below_alloc | apply pw_below_drewN | apply below_drew1) | exact HB.out)⟩⟩
            · rw [if_neg c11] at H
              have c11b0 : decide (x40_1 < ji6) = false := decide_eq_false c11
              clear c11
              replace H := Option.bind_eq_some_iff.mp H
              obtain ⟨t181, A150, H⟩ := H
              replace H : ((verdict_Miss.f k1 ji4 t181 (Int.tmod (wrap64 (a2)) (wrap64 ((ji4) + 1)))).bind fun bt182 => ((verdict_Choose.f k1 ji4 (Int.tmod (wrap64 (a2)) (wrap64 ((ji4) + 1)))).bind fun bt185 => (if bt182.2.2 = 0 then (if bt185.2 = 0 then (if bt182.2.1 < 1 then (quietuslaw46_VerdictCountsSets.j1 k1 ji4 (Int.tmod (wrap64 (a1)) (ji6)) (Int.tmod (wrap64 (a2)) (wrap64 ((ji4) + 1))) x10_1 x11_1 true) else (if (wrap64 (bt182.1 * x10_1)) = (wrap64 (bt182.2.1 * x11_1)) then (quietuslaw46_VerdictCountsSets.j1 k1 ji4 (Int.tmod (wrap64 (a1)) (ji6)) (Int.tmod (wrap64 (a2)) (wrap64 ((ji4) + 1))) x10_1 x11_1 (bt185.1 != x10_1)) else (quietuslaw46_VerdictCountsSets.j1 k1 ji4 (Int.tmod (wrap64 (a1)) (ji6)) (Int.tmod (wrap64 (a2)) (wrap64 ((ji4) + 1))) x10_1 x11_1 true))) else (quietuslaw46_VerdictCountsSets.j1 k1 ji4 (Int.tmod (wrap64 (a1)) (ji6)) (Int.tmod (wrap64 (a2)) (wrap64 ((ji4) + 1))) x10_1 x11_1 true)) else (quietuslaw46_VerdictCountsSets.j1 k1 ji4 (Int.tmod (wrap64 (a1)) (ji6)) (Int.tmod (wrap64 (a2)) (wrap64 ((ji4) + 1))) x10_1 x11_1 true)))) = some r := H
              have A15 := Aside0.mk A150
              clear A150
              replace H := Option.bind_eq_some_iff.mp H
              obtain ⟨⟨t182, t183, t184⟩, A160, H⟩ := H
              replace H : ((verdict_Choose.f k1 ji4 (Int.tmod (wrap64 (a2)) (wrap64 ((ji4) + 1)))).bind fun bt185 => (if t184 = 0 then (if bt185.2 = 0 then (if t183 < 1 then (quietuslaw46_VerdictCountsSets.j1 k1 ji4 (Int.tmod (wrap64 (a1)) (ji6)) (Int.tmod (wrap64 (a2)) (wrap64 ((ji4) + 1))) x10_1 x11_1 true) else (if (wrap64 (t182 * x10_1)) = (wrap64 (t183 * x11_1)) then (quietuslaw46_VerdictCountsSets.j1 k1 ji4 (Int.tmod (wrap64 (a1)) (ji6)) (Int.tmod (wrap64 (a2)) (wrap64 ((ji4) + 1))) x10_1 x11_1 (bt185.1 != x10_1)) else (quietuslaw46_VerdictCountsSets.j1 k1 ji4 (Int.tmod (wrap64 (a1)) (ji6)) (Int.tmod (wrap64 (a2)) (wrap64 ((ji4) + 1))) x10_1 x11_1 true))) else (quietuslaw46_VerdictCountsSets.j1 k1 ji4 (Int.tmod (wrap64 (a1)) (ji6)) (Int.tmod (wrap64 (a2)) (wrap64 ((ji4) + 1))) x10_1 x11_1 true)) else (quietuslaw46_VerdictCountsSets.j1 k1 ji4 (Int.tmod (wrap64 (a1)) (ji6)) (Int.tmod (wrap64 (a2)) (wrap64 ((ji4) + 1))) x10_1 x11_1 true))) = some r := H
              have A16 := Aside0.mk A160
              clear A160
              replace H := Option.bind_eq_some_iff.mp H
              obtain ⟨⟨t185, t186⟩, A170, H⟩ := H
              replace H : (if t184 = 0 then (if t186 = 0 then (if t183 < 1 then (quietuslaw46_VerdictCountsSets.j1 k1 ji4 (Int.tmod (wrap64 (a1)) (ji6)) (Int.tmod (wrap64 (a2)) (wrap64 ((ji4) + 1))) x10_1 x11_1 true) else (if (wrap64 (t182 * x10_1)) = (wrap64 (t183 * x11_1)) then (quietuslaw46_VerdictCountsSets.j1 k1 ji4 (Int.tmod (wrap64 (a1)) (ji6)) (Int.tmod (wrap64 (a2)) (wrap64 ((ji4) + 1))) x10_1 x11_1 (t185 != x10_1)) else (quietuslaw46_VerdictCountsSets.j1 k1 ji4 (Int.tmod (wrap64 (a1)) (ji6)) (Int.tmod (wrap64 (a2)) (wrap64 ((ji4) + 1))) x10_1 x11_1 true))) else (quietuslaw46_VerdictCountsSets.j1 k1 ji4 (Int.tmod (wrap64 (a1)) (ji6)) (Int.tmod (wrap64 (a2)) (wrap64 ((ji4) + 1))) x10_1 x11_1 true)) else (quietuslaw46_VerdictCountsSets.j1 k1 ji4 (Int.tmod (wrap64 (a1)) (ji6)) (Int.tmod (wrap64 (a2)) (wrap64 ((ji4) + 1))) x10_1 x11_1 true)) = some r := H
              have A17 := Aside0.mk A170
              clear A170
              have HC18 := Aside0.mk H
              clear H
              go_upto_region 15 with (first | ((with_reducible refine gate_callee (f := 17) rfl ?_); refine goesL_ (some 59) rfl rfl Try.func17 (by kernel_rfl) rfl #[.int .i64 (Int.tmod (wrap64 (a1)) (ji6))] rfl (by (try simp only [List.map_toArray, List.map_cons, List.map_nil]); first | done | (simp only [hji6]; rfl) | rfl | (simp only [List.length_drop, List.length_take]; rfl)) ?_; (with_reducible refine (quietusref07_Count.calls k1 (Int.tmod (wrap64 (a1)) (ji6)) t181 _ A15.out).mono ?_); rintro e w' ⟨rfl, ⟨nd, rfl⟩⟩; refine ⟨_, rfl, ?_⟩) | ((with_reducible refine gate_callee (f := 7) rfl ?_); refine goesL_ (some 61) rfl rfl Try.func7 (by kernel_rfl) rfl #[.int .i64 ji4, .int .i64 t181, .int .i64 (Int.tmod (wrap64 (a2)) (wrap64 ((ji4) + 1)))] rfl (by (try simp only [List.map_toArray, List.map_cons, List.map_nil]); first | done | (simp only [hji4]; rfl) | rfl | (simp only [List.length_drop, List.length_take]; rfl)) ?_; (with_reducible refine (verdict_Miss.calls k1 ji4 t181 (Int.tmod (wrap64 (a2)) (wrap64 ((ji4) + 1))) t182 t183 t184 _ A16.out).mono ?_); rintro e w19 ⟨rfl, hb⟩; refine ⟨_, rfl, ?_⟩; have n0_ := Aside0.mk (below_step (by repeat (first | (with_reducible first | exact HB.out | apply below_alloc | apply pw_below_drewN | apply below_drew1) | exact HB.out)) hb); clear HB; have HB := n0_; clear n0_; (try clear hb); (try clear hb2); (try clear hk); (try clear hi)) | ((with_reducible refine gate_callee (f := 6) rfl ?_); refine goesL_ (some 68) rfl rfl Try.func6 (by kernel_rfl) rfl #[.int .i64 ji4, .int .i64 (Int.tmod (wrap64 (a2)) (wrap64 ((ji4) + 1)))] rfl (by (try simp only [List.map_toArray, List.map_cons, List.map_nil]); first | done | (simp only [hji4]; rfl) | rfl | (simp only [List.length_drop, List.length_take]; rfl)) ?_; (with_reducible refine (verdict_Choose.calls k1 ji4 (Int.tmod (wrap64 (a2)) (wrap64 ((ji4) + 1))) t185 t186 _ A17.out).mono ?_); rintro e w20 ⟨rfl, hb⟩; refine ⟨_, rfl, ?_⟩; have n0_ := Aside0.mk (below_step (by repeat (first | (with_reducible first | exact HB.out | apply below_alloc | apply pw_below_drewN | apply below_drew1) | exact HB.out)) hb); clear HB; have HB := n0_; clear n0_; (try clear hb); (try clear hb2); (try clear hk); (try clear hi)))
              (try simp only [Act.put, List.setIfInBounds_toArray, List.set_cons_zero, List.set_cons_succ])
              go_cut [94] (fun v94 wc => ∃ (kq : Nat) (x94_17 : Bool), v94 = .bool x94_17 ∧ Aside0 (quietuslaw46_VerdictCountsSets.j1 kq ji4 (Int.tmod (wrap64 (a1)) (ji6)) (Int.tmod (wrap64 (a2)) (wrap64 ((ji4) + 1))) x10_1 x11_1 x94_17 = some r) ∧ Aside0 (kq ≤ k1) ∧ Aside0 (Below w.heap.size w wc))
              case first =>
                have H := HC18.out
                clear HC18
                by_cases c21 : t184 = 0
                · rw [if_pos c21] at H
                  have c21b0 : (t184 == 0) = true := beq_iff_eq.mpr c21
                  have c21b1 : (t184 != 0) = false := bne_eq_false_iff_eq.mpr c21
                  clear c21
                  (first | rw [c21b0] | (simp only [i64_w, i32_w]; rw [c21b0]) | skip)
                  by_cases c22 : t186 = 0
                  · rw [if_pos c22] at H
                    have c22b0 : (t186 == 0) = true := beq_iff_eq.mpr c22
                    have c22b1 : (t186 != 0) = false := bne_eq_false_iff_eq.mpr c22
                    clear c22
                    by_cases c23 : t183 < 1
                    · rw [if_pos c23] at H
                      have c23b0 : decide (t183 < 1) = true := decide_eq_true c23
                      clear c23
                      have H' := Aside0.mk H
                      clear H
                      go_wp2
                      go_meet
                      case rel => exact ⟨_, (true), (by first | rfl | (simp; done) | (simp [*]; done)), H', ⟨by have := HK1.out; first | omega | exact Nat.le_refl _⟩, ⟨by repeat (first | (with_reducible first | exact HB.out | apply below_alloc | apply pw_below_drewN | apply below_drew1) | exact HB.out)⟩⟩
                    · rw [if_neg c23] at H
                      have c23b0 : decide (t183 < 1) = false := decide_eq_false c23
                      clear c23
                      by_cases c24 : (wrap64 (t182 * x10_1)) = (wrap64 (t183 * x11_1))
                      · rw [if_pos c24] at H
                        have c24b0 : ((wrap64 (t182 * x10_1)) == (wrap64 (t183 * x11_1))) = true := beq_iff_eq.mpr c24
                        have c24b1 : ((wrap64 (t182 * x10_1)) != (wrap64 (t183 * x11_1))) = false := bne_eq_false_iff_eq.mpr c24
                        clear c24
                        have H' := Aside0.mk H
                        clear H
                        go_wp2
                        go_meet
                        case rel => exact ⟨_, ((t185 != x10_1)), (by first | rfl | (simp; done) | (simp [*]; done)), H', ⟨by have := HK1.out; first | omega | exact Nat.le_refl _⟩, ⟨by repeat (first | (with_reducible first | exact HB.out | apply below_alloc | apply pw_below_drewN | apply below_drew1) | exact HB.out)⟩⟩
                      · rw [if_neg c24] at H
                        have c24b0 : ((wrap64 (t182 * x10_1)) == (wrap64 (t183 * x11_1))) = false := beq_eq_false_iff_ne.mpr c24
                        have c24b1 : ((wrap64 (t182 * x10_1)) != (wrap64 (t183 * x11_1))) = true := bne_iff_ne.mpr c24
                        have H' := Aside0.mk H
                        clear H
                        go_wp2
                        go_meet
                        case rel => exact ⟨_, (true), (by first | rfl | (simp; done) | (simp [*]; done)), H', ⟨by have := HK1.out; first | omega | exact Nat.le_refl _⟩, ⟨by repeat (first | (with_reducible first | exact HB.out | apply below_alloc | apply pw_below_drewN | apply below_drew1) | exact HB.out)⟩⟩
                  · rw [if_neg c22] at H
                    have c22b0 : (t186 == 0) = false := beq_eq_false_iff_ne.mpr c22
                    have c22b1 : (t186 != 0) = true := bne_iff_ne.mpr c22
                    have H' := Aside0.mk H
                    clear H
                    go_wp2
                    go_meet
                    case rel => exact ⟨_, (true), (by first | rfl | (simp; done) | (simp [*]; done)), H', ⟨by have := HK1.out; first | omega | exact Nat.le_refl _⟩, ⟨by repeat (first | (with_reducible first | exact HB.out | apply below_alloc | apply pw_below_drewN | apply below_drew1) | exact HB.out)⟩⟩
                · rw [if_neg c21] at H
                  have c21b0 : (t184 == 0) = false := beq_eq_false_iff_ne.mpr c21
                  have c21b1 : (t184 != 0) = true := bne_iff_ne.mpr c21
                  (first | rw [c21b0] | (simp only [i64_w, i32_w]; rw [c21b0]) | skip)
                  have H' := Aside0.mk H
                  clear H
                  go_wp2
                  go_meet
                  case rel => exact ⟨_, (true), (by first | rfl | (simp; done) | (simp [*]; done)), H', ⟨by have := HK1.out; first | omega | exact Nat.le_refl _⟩, ⟨by repeat (first | (with_reducible first | exact HB.out | apply below_alloc | apply pw_below_drewN | apply below_drew1) | exact HB.out)⟩⟩
              case rest =>
                clear HC18
                try clear c1
                try clear c2
                try clear p2
                try clear c4
                try clear c5
                try clear c5b0
                try clear c5b1
                try clear c6
                try clear p6
                try clear c7
                try clear c7b0
                try clear c7b1
                try clear c8
                try clear c8b0
                try clear c8b1
                try clear c9
                try clear c9b0
                try clear c10
                try clear c10b0
                try clear c11
                try clear c11b0
                try clear c13
                try clear c13b0
                try clear c13b1
                try clear c14
                try clear c14b0
                try clear c14b1
                try clear c17
                try clear c21
                try clear c21b0
                try clear c21b1
                try clear c22
                try clear c22b0
                try clear c22b1
                try clear c23
                try clear c23b0
                try clear c24
                try clear c24b0
                try clear c24b1
                try clear p2
                try clear p6
                obtain ⟨kq, x94_17, rfl, HA, HJ17, HB⟩ := hcut
                cases kq with
                | zero => exact absurd HA.out (by simp [quietuslaw46_VerdictCountsSets.j1])
                | succ kj17 =>
                  have H := HA.out
                  clear HA
                  simp only [quietuslaw46_VerdictCountsSets.j1] at H
                  by_cases c25 : x94_17 = true
                  · subst c25
                    have H1 : (some false) = some r := by rw [if_pos rfl] at H; exact H
                    clear H
                    have H := H1
                    clear H1
                    obtain rfl := Option.some.inj H
                    go_wp2
                    go_ret
                    exact ⟨by first | rfl | (simp [errW_none, errW_some] <;> rfl) | (simp only [← hji4, ← hji6]; first | rfl | (simp [errW_none, errW_some] <;> rfl)) | (simp [*, errW_none, errW_some] <;> rfl), by repeat (first | (with_reducible first | exact HB.out | apply below_alloc | apply pw_below_drewN | apply below_drew1) | exact HB.out)⟩
                  · replace c25 := Bool.eq_false_iff.mpr c25
                    subst c25
                    have H1 : (if ji4 > 6 then ((quietuslaw46_sanity.f).bind fun t187 => (some t187)) else ((some (([1, 2, 5, 20, 400] : List Int) : List Int)).bind fun y188 => (quietuslaw46_VerdictCountsSets.l1 kj17 ji4 (Int.tmod (wrap64 (a1)) (ji6)) (Int.tmod (wrap64 (a2)) (wrap64 ((ji4) + 1))) (wrap64 (x10_1 * x10_1)) (wrap64 (x11_1 * x11_1)) y188 (y188.length : Int) 0))) = some r := by rw [if_neg (show ¬ (false = true) by decide)] at H; exact H
                    clear H
                    have H := H1
                    clear H1
                    by_cases c26 : ji4 > 6
                    · rw [if_pos c26] at H
                      have c26b0 : decide (6 < ji4) = true := decide_eq_true c26
                      clear c26
                      replace H := Option.bind_eq_some_iff.mp H
                      obtain ⟨t187, A270, H⟩ := H
                      replace H : (some t187) = some r := H
                      have A27 := Aside0.mk A270
                      clear A270
                      obtain rfl := Option.some.inj H
                      go_wp2_with (first | ((with_reducible refine gate_callee (f := 16) rfl ?_); refine goesL_ (some 97) rfl rfl Try.func16 (by kernel_rfl) rfl #[] rfl (by (try simp only [List.map_toArray, List.map_cons, List.map_nil]); first | done | rfl | (simp only [List.length_drop, List.length_take]; rfl)) ?_; (with_reducible refine (quietuslaw46_sanity.calls  t187 _ A27.out).mono ?_); rintro e w28 ⟨rfl, hb⟩; refine ⟨_, rfl, ?_⟩; have n0_ := Aside0.mk (below_step (by repeat (first | (with_reducible first | exact HB.out | apply below_alloc | apply pw_below_drewN | apply below_drew1) | exact HB.out)) hb); clear HB; have HB := n0_; clear n0_; (try clear hb); (try clear hb2); (try clear hk); (try clear hi)))
                      go_ret
                      exact ⟨by first | rfl | (simp [errW_none, errW_some] <;> rfl) | (simp only [← hji4, ← hji6]; first | rfl | (simp [errW_none, errW_some] <;> rfl)) | (simp [*, errW_none, errW_some] <;> rfl), by repeat (first | (with_reducible first | exact HB.out | apply below_alloc | apply pw_below_drewN | apply below_drew1) | exact HB.out)⟩
                    · rw [if_neg c26] at H
                      have c26b0 : decide (6 < ji4) = false := decide_eq_false c26
                      clear c26
                      obtain ⟨y188, hy188⟩ : ∃ y_ : List Int, y_ = (([1, 2, 5, 20, 400] : List Int)) := ⟨_, rfl⟩
                      replace H : (quietuslaw46_VerdictCountsSets.l1 kj17 ji4 (Int.tmod (wrap64 (a1)) (ji6)) (Int.tmod (wrap64 (a2)) (wrap64 ((ji4) + 1))) (wrap64 (x10_1 * x10_1)) (wrap64 (x11_1 * x11_1)) y188 (y188.length : Int) 0) = some r := by first | (rw [hy188]; with_reducible exact H) | (have H2_ := (Option.bind_some _ _).symm.trans H; rw [hy188]; with_reducible exact H2_) | (have H2_ := (Option.bind_some _ _).symm.trans H; with_reducible exact H2_) | with_reducible exact H | (rw [hy188]; exact H) | exact H
                      have Ny188 := Aside0.mk hy188
                      clear hy188
                      have H' := Aside0.mk H
                      clear H
                      go_wp2_with (first | ((with_reducible refine gate_dst (N := 104) rfl ?_); refine Kd.R_lit (Kd.int .i64) _ 3 ?hg (N := 104) ?hd (xs := ([1, 2, 5, 20, 400] : List Int)) (inner := [.int .i64 1, .int .i64 2, .int .i64 5, .int .i64 20, .int .i64 400]) (ok := fun _ => True) (okp := fun _ => True) ?hr ?hp (fun _ hk => hk) trivial (Below.refl _ _) (Nat.le_refl _) (by simp) ?_; (case hd => rfl); (case hg => rfl); (case hr => first | (go_simp; done) | (go_simp; rfl)); (case hp => exact (Reps.one (show Kd.M (Kd.int .i64) _ _ _ 1 [.int .i64 1] from rfl) (Reps.one (show Kd.M (Kd.int .i64) _ _ _ 2 [.int .i64 2] from rfl) (Reps.one (show Kd.M (Kd.int .i64) _ _ _ 5 [.int .i64 5] from rfl) (Reps.one (show Kd.M (Kd.int .i64) _ _ _ 20 [.int .i64 20] from rfl) (Reps.one (show Kd.M (Kd.int .i64) _ _ _ 400 [.int .i64 400] from rfl) (Reps.none _ _))))))); intro v189 w29 ho30 hb hg_ hnew_; clear hg_ hnew_; (first | rw [← Ny188.out] at ho30 | (simp only [Int.reduceToNat] at ho30; rw [← Ny188.out] at ho30)); have n0_ := Aside0.mk (Kd.R_lower ho30 (below_size (by repeat (first | (with_reducible first | exact HB.out | apply below_alloc | apply pw_below_drewN | apply below_drew1) | exact HB.out)))); have n1_ := Aside0.mk (below_step (by repeat (first | (with_reducible first | exact HB.out | apply below_alloc | apply pw_below_drewN | apply below_drew1) | exact HB.out)) hb); clear HB; have HO190 := n0_; have HB := n1_; clear n0_ n1_; clear hb ho30; obtain ⟨Ao31, co31, eo31⟩ := Kd.R_slice HO190.out; subst eo31))
                      go_loopg [106] kj17 (fun kq v106 w' => ∃ (x106_3 : Int), v106 = .int .i64 x106_3 ∧ Aside0 (quietuslaw46_VerdictCountsSets.l1 kq ji4 (Int.tmod (wrap64 (a1)) (ji6)) (Int.tmod (wrap64 (a2)) (wrap64 ((ji4) + 1))) (wrap64 (x10_1 * x10_1)) (wrap64 (x11_1 * x11_1)) y188 (y188.length : Int) x106_3 = some r) ∧ Aside0 (kq ≤ kj17) ∧ Aside0 (Kd.R (Kd.int .i64) 3 w' w.heap.size (fun _ => True) (.slice Ao31 y188.length co31) y188) ∧ Aside0 (Below w.heap.size w w'))
                      case atStart => exact ⟨(0), (by first | rfl | (simp; done) | (simp [*]; done)), H', ⟨Nat.le_refl _⟩, ⟨by (with_reducible repeat (first | apply Kd.R_alloc | apply Kd.R_drewN | apply Kd.R_drew)); exact HO190.out⟩, ⟨by repeat (first | (with_reducible first | exact HB.out | apply below_alloc | apply pw_below_drewN | apply below_drew1) | exact HB.out)⟩⟩
                      case round =>
                        clear H'
                        try clear c1
                        try clear c2
                        try clear p2
                        try clear c4
                        try clear c5
                        try clear c5b0
                        try clear c5b1
                        try clear c6
                        try clear p6
                        try clear c7
                        try clear c7b0
                        try clear c7b1
                        try clear c8
                        try clear c8b0
                        try clear c8b1
                        try clear c9
                        try clear c9b0
                        try clear c10
                        try clear c10b0
                        try clear c11
                        try clear c11b0
                        try clear c13
                        try clear c13b0
                        try clear c13b1
                        try clear c14
                        try clear c14b0
                        try clear c14b1
                        try clear c16
                        try clear c17
                        try clear c21
                        try clear c21b0
                        try clear c21b1
                        try clear c22
                        try clear c22b0
                        try clear c22b1
                        try clear c23
                        try clear c23b0
                        try clear c24
                        try clear c24b0
                        try clear c24b1
                        try clear c25
                        try clear c26
                        try clear c26b0
                        try clear p2
                        try clear p6
                        obtain ⟨x106_3, rfl, HA, HK3, HO_104, HB⟩ := hrel
                        cases gk with
                        | zero => exact absurd HA.out (by simp [quietuslaw46_VerdictCountsSets.l1])
                        | succ k3 =>
                          have H := HA.out
                          clear HA
                          simp only [quietuslaw46_VerdictCountsSets.l1] at H
                          by_cases c32 : x106_3 < (y188.length : Int)
                          · rw [if_pos c32] at H
                            have c32b0 : decide (x106_3 < (y188.length : Int)) = true := decide_eq_true c32
                            clear c32
                            by_cases c33 : 0 ≤ x106_3
                            · rw [if_pos c33] at H
                              have c33b0 : decide (0 ≤ x106_3) = true := decide_eq_true c33
                              clear c33
                              by_cases c34 : x106_3 < (y188.length : Int)
                              · rw [if_pos c34] at H
                                have c34b0 : decide (x106_3 < (y188.length : Int)) = true := decide_eq_true c34
                                clear c34
                                replace H := Option.bind_eq_some_iff.mp H
                                obtain ⟨t193, A350, H⟩ := H
                                replace H : ((verdict_Enough.f k3 ji4 t193 (Int.tmod (wrap64 (a2)) (wrap64 ((ji4) + 1))) 2 (rd y188 x106_3)).bind fun bt194 => (if bt194.2 = 0 then (if (bt194.1 != (decide ((wrap64 ((rd y188 x106_3) * (wrap64 (x11_1 * x11_1)))) ≤ (wrap64 (x10_1 * x10_1))))) = true then (some false) else (quietuslaw46_VerdictCountsSets.l1 k3 ji4 (Int.tmod (wrap64 (a1)) (ji6)) (Int.tmod (wrap64 (a2)) (wrap64 ((ji4) + 1))) (wrap64 (x10_1 * x10_1)) (wrap64 (x11_1 * x11_1)) y188 (y188.length : Int) (wrap64 (x106_3 + 1)))) else (some false))) = some r := H
                                have A35 := Aside0.mk A350
                                clear A350
                                replace H := Option.bind_eq_some_iff.mp H
                                obtain ⟨⟨t194, t195⟩, A360, H⟩ := H
                                replace H : (if t195 = 0 then (if (t194 != (decide ((wrap64 ((rd y188 x106_3) * (wrap64 (x11_1 * x11_1)))) ≤ (wrap64 (x10_1 * x10_1))))) = true then (some false) else (quietuslaw46_VerdictCountsSets.l1 k3 ji4 (Int.tmod (wrap64 (a1)) (ji6)) (Int.tmod (wrap64 (a2)) (wrap64 ((ji4) + 1))) (wrap64 (x10_1 * x10_1)) (wrap64 (x11_1 * x11_1)) y188 (y188.length : Int) (wrap64 (x106_3 + 1)))) else (some false)) = some r := H
                                have A36 := Aside0.mk A360
                                clear A360
                                by_cases c37 : t195 = 0
                                · rw [if_pos c37] at H
                                  have c37b0 : (t195 == 0) = true := beq_iff_eq.mpr c37
                                  have c37b1 : (t195 != 0) = false := bne_eq_false_iff_eq.mpr c37
                                  clear c37
                                  by_cases c38 : (t194 != (decide ((wrap64 ((rd y188 x106_3) * (wrap64 (x11_1 * x11_1)))) ≤ (wrap64 (x10_1 * x10_1))))) = true
                                  · rw [if_pos c38] at H
                                    have c38b0 : (t194 != (decide ((wrap64 ((rd y188 x106_3) * (wrap64 (x11_1 * x11_1)))) ≤ (wrap64 (x10_1 * x10_1))))) = true := c38
                                    (try (have c38b1 : decide (t194 = (decide ((wrap64 ((rd y188 x106_3) * (wrap64 (x11_1 * x11_1)))) ≤ (wrap64 (x10_1 * x10_1))))) = false := by simpa using c38))
                                    (try (have c38b2 : (t194 == (decide ((wrap64 ((rd y188 x106_3) * (wrap64 (x11_1 * x11_1)))) ≤ (wrap64 (x10_1 * x10_1))))) = false := by simpa using c38))
                                    (try (have c38b3 : ¬ (t194 = (decide ((wrap64 ((rd y188 x106_3) * (wrap64 (x11_1 * x11_1)))) ≤ (wrap64 (x10_1 * x10_1))))) := by simpa using c38))
                                    clear c38
                                    obtain rfl := Option.some.inj H
                                    have p192 : 0 ≤ (x106_3 : Int) := of_decide_eq_true (by first | (with_reducible assumption) | assumption)
                                    have q192 : x106_3 < (y188.length : Int) := of_decide_eq_true (by first | (with_reducible assumption) | assumption)
                                    obtain ⟨ad192, e192, hx192_0⟩ := Kd.at_int (Kd.R_reads' HO_104.out).2.2 x106_3 p192 q192
                                    cases e192
                                    replace p192 := eq_true p192
                                    replace q192 := eq_true q192
                                    go_wp2_with (first | ((with_reducible refine gate_callee (f := 17) rfl ?_); refine goesL_ (some 113) rfl rfl Try.func17 (by kernel_rfl) rfl #[.int .i64 (Int.tmod (wrap64 (a1)) (ji6))] rfl (by (try simp only [List.map_toArray, List.map_cons, List.map_nil]); first | done | (simp only [hji6]; rfl) | rfl | (simp only [List.length_drop, List.length_take]; rfl)) ?_; (with_reducible refine (quietusref07_Count.calls k3 (Int.tmod (wrap64 (a1)) (ji6)) t193 _ A35.out).mono ?_); rintro e w' ⟨rfl, ⟨nd, rfl⟩⟩; refine ⟨_, rfl, ?_⟩) | ((with_reducible refine gate_callee (f := 8) rfl ?_); refine goesL_ (some 116) rfl rfl Try.func8 (by kernel_rfl) rfl #[.int .i64 ji4, .int .i64 t193, .int .i64 (Int.tmod (wrap64 (a2)) (wrap64 ((ji4) + 1))), .int .i64 2, .int .i64 (rd y188 x106_3)] rfl (by (try simp only [List.map_toArray, List.map_cons, List.map_nil]); first | done | (simp only [hji4]; rfl) | rfl | (simp only [List.length_drop, List.length_take]; rfl)) ?_; (with_reducible refine (verdict_Enough.calls k3 ji4 t193 (Int.tmod (wrap64 (a2)) (wrap64 ((ji4) + 1))) 2 (rd y188 x106_3) t194 t195 _ A36.out).mono ?_); rintro e w39 ⟨rfl, hb⟩; refine ⟨_, rfl, ?_⟩; have n0_ := Aside0.mk (Kd.R_below (by (with_reducible repeat (first | apply Kd.R_alloc | apply Kd.R_drewN | apply Kd.R_drew)); exact HO_104.out) hb); have n1_ := Aside0.mk (below_step (by repeat (first | (with_reducible first | exact HB.out | apply below_alloc | apply pw_below_drewN | apply below_drew1) | exact HB.out)) hb); clear HO_104; clear HB; have HO_104 := n0_; have HB := n1_; clear n0_ n1_; (try clear hb); (try clear hb2); (try clear hk); (try clear hi)))
                                    go_ret
                                    exact ⟨by first | rfl | (simp [errW_none, errW_some] <;> rfl) | (simp only [← hji4, ← hji6]; first | rfl | (simp [errW_none, errW_some] <;> rfl)) | (simp [*, errW_none, errW_some] <;> rfl), by repeat (first | (with_reducible first | exact HB.out | apply below_alloc | apply pw_below_drewN | apply below_drew1) | exact HB.out)⟩
                                  · rw [if_neg c38] at H
                                    have c38b0 : (t194 != (decide ((wrap64 ((rd y188 x106_3) * (wrap64 (x11_1 * x11_1)))) ≤ (wrap64 (x10_1 * x10_1))))) = false := by simpa using c38
                                    (try (have c38b1 : decide (t194 = (decide ((wrap64 ((rd y188 x106_3) * (wrap64 (x11_1 * x11_1)))) ≤ (wrap64 (x10_1 * x10_1))))) = true := by simpa using c38))
                                    (try (have c38b2 : (t194 == (decide ((wrap64 ((rd y188 x106_3) * (wrap64 (x11_1 * x11_1)))) ≤ (wrap64 (x10_1 * x10_1))))) = true := by simpa using c38))
                                    clear c38
                                    have H' := Aside0.mk H
                                    clear H
                                    have p192 : 0 ≤ (x106_3 : Int) := of_decide_eq_true (by first | (with_reducible assumption) | assumption)
                                    have q192 : x106_3 < (y188.length : Int) := of_decide_eq_true (by first | (with_reducible assumption) | assumption)
                                    obtain ⟨ad192, e192, hx192_0⟩ := Kd.at_int (Kd.R_reads' HO_104.out).2.2 x106_3 p192 q192
                                    cases e192
                                    replace p192 := eq_true p192
                                    replace q192 := eq_true q192
                                    go_wp2_with (first | ((with_reducible refine gate_callee (f := 17) rfl ?_); refine goesL_ (some 113) rfl rfl Try.func17 (by kernel_rfl) rfl #[.int .i64 (Int.tmod (wrap64 (a1)) (ji6))] rfl (by (try simp only [List.map_toArray, List.map_cons, List.map_nil]); first | done | (simp only [hji6]; rfl) | rfl | (simp only [List.length_drop, List.length_take]; rfl)) ?_; (with_reducible refine (quietusref07_Count.calls k3 (Int.tmod (wrap64 (a1)) (ji6)) t193 _ A35.out).mono ?_); rintro e w' ⟨rfl, ⟨nd, rfl⟩⟩; refine ⟨_, rfl, ?_⟩) | ((with_reducible refine gate_callee (f := 8) rfl ?_); refine goesL_ (some 116) rfl rfl Try.func8 (by kernel_rfl) rfl #[.int .i64 ji4, .int .i64 t193, .int .i64 (Int.tmod (wrap64 (a2)) (wrap64 ((ji4) + 1))), .int .i64 2, .int .i64 (rd y188 x106_3)] rfl (by (try simp only [List.map_toArray, List.map_cons, List.map_nil]); first | done | (simp only [hji4]; rfl) | rfl | (simp only [List.length_drop, List.length_take]; rfl)) ?_; (with_reducible refine (verdict_Enough.calls k3 ji4 t193 (Int.tmod (wrap64 (a2)) (wrap64 ((ji4) + 1))) 2 (rd y188 x106_3) t194 t195 _ A36.out).mono ?_); rintro e w40 ⟨rfl, hb⟩; refine ⟨_, rfl, ?_⟩; have n0_ := Aside0.mk (Kd.R_below (by (with_reducible repeat (first | apply Kd.R_alloc | apply Kd.R_drewN | apply Kd.R_drew)); exact HO_104.out) hb); have n1_ := Aside0.mk (below_step (by repeat (first | (with_reducible first | exact HB.out | apply below_alloc | apply pw_below_drewN | apply below_drew1) | exact HB.out)) hb); clear HO_104; clear HB; have HO_104 := n0_; have HB := n1_; clear n0_ n1_; (try clear hb); (try clear hb2); (try clear hk); (try clear hi)))
                                    go_roundg k3
                                    case measure => have := HK1.out; have := HJ17.out; have := HK3.out; omega
                                    case rel => exact ⟨(wrap64 (x106_3 + 1)), (by first | rfl | (simp; done) | (simp [*]; done)), H', ⟨by have := HK1.out; have := HJ17.out; have := HK3.out; omega⟩, ⟨by (with_reducible repeat (first | apply Kd.R_alloc | apply Kd.R_drewN | apply Kd.R_drew)); exact HO_104.out⟩, ⟨by repeat (first | (with_reducible first | exact HB.out | apply below_alloc | apply pw_below_drewN | apply below_drew1) | exact HB.out)⟩⟩
                                · rw [if_neg c37] at H
                                  have c37b0 : (t195 == 0) = false := beq_eq_false_iff_ne.mpr c37
                                  have c37b1 : (t195 != 0) = true := bne_iff_ne.mpr c37
                                  obtain rfl := Option.some.inj H
                                  have p192 : 0 ≤ (x106_3 : Int) := of_decide_eq_true (by first | (with_reducible assumption) | assumption)
                                  have q192 : x106_3 < (y188.length : Int) := of_decide_eq_true (by first | (with_reducible assumption) | assumption)
                                  obtain ⟨ad192, e192, hx192_0⟩ := Kd.at_int (Kd.R_reads' HO_104.out).2.2 x106_3 p192 q192
                                  cases e192
                                  replace p192 := eq_true p192
                                  replace q192 := eq_true q192
                                  go_wp2_with (first | ((with_reducible refine gate_callee (f := 17) rfl ?_); refine goesL_ (some 113) rfl rfl Try.func17 (by kernel_rfl) rfl #[.int .i64 (Int.tmod (wrap64 (a1)) (ji6))] rfl (by (try simp only [List.map_toArray, List.map_cons, List.map_nil]); first | done | (simp only [hji6]; rfl) | rfl | (simp only [List.length_drop, List.length_take]; rfl)) ?_; (with_reducible refine (quietusref07_Count.calls k3 (Int.tmod (wrap64 (a1)) (ji6)) t193 _ A35.out).mono ?_); rintro e w' ⟨rfl, ⟨nd, rfl⟩⟩; refine ⟨_, rfl, ?_⟩) | ((with_reducible refine gate_callee (f := 8) rfl ?_); refine goesL_ (some 116) rfl rfl Try.func8 (by kernel_rfl) rfl #[.int .i64 ji4, .int .i64 t193, .int .i64 (Int.tmod (wrap64 (a2)) (wrap64 ((ji4) + 1))), .int .i64 2, .int .i64 (rd y188 x106_3)] rfl (by (try simp only [List.map_toArray, List.map_cons, List.map_nil]); first | done | (simp only [hji4]; rfl) | rfl | (simp only [List.length_drop, List.length_take]; rfl)) ?_; (with_reducible refine (verdict_Enough.calls k3 ji4 t193 (Int.tmod (wrap64 (a2)) (wrap64 ((ji4) + 1))) 2 (rd y188 x106_3) t194 t195 _ A36.out).mono ?_); rintro e w41 ⟨rfl, hb⟩; refine ⟨_, rfl, ?_⟩; have n0_ := Aside0.mk (Kd.R_below (by (with_reducible repeat (first | apply Kd.R_alloc | apply Kd.R_drewN | apply Kd.R_drew)); exact HO_104.out) hb); have n1_ := Aside0.mk (below_step (by repeat (first | (with_reducible first | exact HB.out | apply below_alloc | apply pw_below_drewN | apply below_drew1) | exact HB.out)) hb); clear HO_104; clear HB; have HO_104 := n0_; have HB := n1_; clear n0_ n1_; (try clear hb); (try clear hb2); (try clear hk); (try clear hi)))
                                  go_ret
                                  exact ⟨by first | rfl | (simp [errW_none, errW_some] <;> rfl) | (simp only [← hji4, ← hji6]; first | rfl | (simp [errW_none, errW_some] <;> rfl)) | (simp [*, errW_none, errW_some] <;> rfl), by repeat (first | (with_reducible first | exact HB.out | apply below_alloc | apply pw_below_drewN | apply below_drew1) | exact HB.out)⟩
                              · rw [if_neg c34] at H
                                exact absurd H (by simp)
                            · rw [if_neg c33] at H
                              exact absurd H (by simp)
                          · rw [if_neg c32] at H
                            have c32b0 : decide (x106_3 < (y188.length : Int)) = false := decide_eq_false c32
                            clear c32
                            replace H := Option.bind_eq_some_iff.mp H
                            obtain ⟨t191, A420, H⟩ := H
                            replace H : (some t191) = some r := H
                            have A42 := Aside0.mk A420
                            clear A420
                            obtain rfl := Option.some.inj H
                            go_wp2_with (first | ((with_reducible refine gate_callee (f := 16) rfl ?_); refine goesL_ (some 131) rfl rfl Try.func16 (by kernel_rfl) rfl #[] rfl (by (try simp only [List.map_toArray, List.map_cons, List.map_nil]); first | done | rfl | (simp only [List.length_drop, List.length_take]; rfl)) ?_; (with_reducible refine (quietuslaw46_sanity.calls  t191 _ A42.out).mono ?_); rintro e w43 ⟨rfl, hb⟩; refine ⟨_, rfl, ?_⟩; have n0_ := Aside0.mk (Kd.R_below (by (with_reducible repeat (first | apply Kd.R_alloc | apply Kd.R_drewN | apply Kd.R_drew)); exact HO_104.out) hb); have n1_ := Aside0.mk (below_step (by repeat (first | (with_reducible first | exact HB.out | apply below_alloc | apply pw_below_drewN | apply below_drew1) | exact HB.out)) hb); clear HO_104; clear HB; have HO_104 := n0_; have HB := n1_; clear n0_ n1_; (try clear hb); (try clear hb2); (try clear hk); (try clear hi)))
                            go_ret
                            exact ⟨by first | rfl | (simp [errW_none, errW_some] <;> rfl) | (simp only [← hji4, ← hji6]; first | rfl | (simp [errW_none, errW_some] <;> rfl)) | (simp [*, errW_none, errW_some] <;> rfl), by repeat (first | (with_reducible first | exact HB.out | apply below_alloc | apply pw_below_drewN | apply below_drew1) | exact HB.out)⟩
  · rw [if_neg c5] at H
    exact absurd H (by simp)

/-- THE ONE PURE STATEMENT of quietuslaw46_VerdictCountsSets: yours. -/
def quietuslaw46_VerdictCountsSets.Pure : Prop := ∀ (a0 : Int) (a1 : Int) (a2 : Int), (Lit.int .u8 a0).wf = true → (Lit.int .u16 a1).wf = true → (Lit.int .u8 a2).wf = true → ∃ k, quietuslaw46_VerdictCountsSets.f k a0 a1 a2 = some true
theorem quietuslaw46_VerdictCountsSets.walk (P : quietuslaw46_VerdictCountsSets.Pure) (a0 : Int) (a1 : Int) (a2 : Int) (w : World) (w0 : (Lit.int .u8 a0).wf = true) (w1 : (Lit.int .u16 a1).wf = true) (w2 : (Lit.int .u8 a2).wf = true) :
    Calls Try.prog 4 #[.int .u8 a0, .int .u16 a1, .int .u8 a2] w fun e w' => e = .returned (.bool true) ∧ Below w.heap.size w w' := by
  obtain ⟨k, h⟩ := P a0 a1 a2 w0 w1 w2
  refine (quietuslaw46_VerdictCountsSets.calls k a0 a1 a2 true w h).mono ?_
  rintro e w' ⟨rfl, hd⟩
  exact ⟨rfl, hd⟩

/-! ### quietuslaw46_less: function 18 -/
def quietuslaw46_less.f (a0 : Int) (a1 : Int) (a2 : Int) (a3 : Int) : Option (Bool) := some (decide ((wrap64 (a0 * a3)) ≤ (wrap64 (a2 * a1))))
set_option maxHeartbeats 8000000 in
set_option maxRecDepth 100000 in
theorem quietuslaw46_less.calls (a0 : Int) (a1 : Int) (a2 : Int) (a3 : Int) (r : Bool) (w : World) (h : quietuslaw46_less.f a0 a1 a2 a3 = some r) :
    Calls Try.prog 18 #[.int .i64 a0, .int .i64 a1, .int .i64 a2, .int .i64 a3] w fun e w' => e = .returned (.bool r) ∧ Drawn0 w w' := by
  have H : (some (decide ((wrap64 (a0 * a3)) ≤ (wrap64 (a2 * a1))))) = some r := h
  clear h
  obtain rfl := Option.some.inj H
  go_enter Try.func18, Try.ntmps18
  go_wp2
  go_ret
  exact ⟨by first | rfl | (simp; done) | (simp [*]; done), by repeat (first | exact Drawn0.refl _ | apply Drawn0.step)⟩

end Go.Proofs.Ytkmfaiehhfjjmaa.V
