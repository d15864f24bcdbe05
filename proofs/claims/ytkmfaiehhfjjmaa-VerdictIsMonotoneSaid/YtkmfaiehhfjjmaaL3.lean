/- VerdictIsMonotone, walked. -/
import Derived.Test.YtkmfaiehhfjjmaaA4
import Derived.Test.YtkmfaiehhfjjmaaV7
namespace Go.Proofs.Ytkmfaiehhfjjmaa.A
open Go.RowKit Go.Proofs.Ytkmfaiehhfjjmaa.V Go.Proofs.Ytkmfaiehhfjjmaa.Math Go.Proofs.YtkmfaiehhfjjmaaW.PrintWords Go.Proofs.YtkmfaiehhfjjmaaW.PrintLast

/-- what the law asks of the numbers that the program returns -/
structure Facts (n b c o : Int) : Prop where
  miss : ∃ x y : Int, missS n b c = (x, y, 0) ∧ 0 ≤ x ∧ x ≤ y ∧ (x == 0) = decide (n - b < c)
  bad : b < n → ∃ x y : Int, missS n (b + 1) c = (x, y, 0) ∧ ∀ x0 y0 e, missS n b c = (x0, y0, e) → wrap64 (x * y0) ≤ wrap64 (x0 * y)
  check : c < n → ∃ x y : Int, missS n b (c + 1) = (x, y, 0) ∧ ∀ x0 y0 e, missS n b c = (x0, y0, e) → wrap64 (x * y0) ≤ wrap64 (x0 * y)
  least : 0 < b → ∃ m : Int, leastS n b o = (m, 0) ∧ 0 ≤ m ∧ m ≤ n ∧ enoughS n b m 1 o = (true, 0) ∧ (0 < m → enoughS n b (m - 1) 1 o = (false, 0))
  rounds : ∃ p : Int → Bool, (∀ r : Int, 1 ≤ r → r ≤ 4 → enoughS n b c r o = (p r, 0)) ∧ (∀ r : Int, 1 ≤ r → r < 4 → p r = true → p (r + 1) = true) ∧ roundsS n b c o = (if firstN p 4 1 > 4 then (0, 8) else (firstN p 4 1, 0))

theorem less_calls (a b c d : Int) (w : World) (h : wrap64 (a * d) ≤ wrap64 (c * b)) : Calls Try.prog 18 #[.int .i64 a, .int .i64 b, .int .i64 c, .int .i64 d] w fun e w' => e = .returned (.bool true) ∧ Drawn0 w w' :=
  quietuslaw46_less.calls a b c d true w (by simp [quietuslaw46_less.f, h])

theorem first_mono (p : Int → Bool) (hmono : ∀ r : Int, 1 ≤ r → r < 4 → p r = true → p (r + 1) = true) : ∀ r : Int, 1 ≤ r → r ≤ 4 → p r = decide (firstN p 4 1 ≤ r) := by
  intro r h1 h4
  have lo := firstN_lo p 4 1
  by_cases h : firstN p 4 1 ≤ r
  · rw [decide_eq_true h]
    have hp := firstN_is p 4 1 (by omega)
    have up : ∀ d : Nat, firstN p 4 1 + d ≤ 4 → p (firstN p 4 1 + d) = true := by
      intro d
      induction d with
      | zero => intro _; simpa using hp
      | succ d ih => intro hd; have := hmono _ (by omega) (by omega) (ih (by omega)); rw [show firstN p 4 1 + ((d + 1 : Nat) : Int) = firstN p 4 1 + d + 1 by omega]; exact this
    have := up (r - firstN p 4 1).toNat (by omega)
    rw [show firstN p 4 1 + ((r - firstN p 4 1).toNat : Int) = r by omega] at this
    exact this
  · rw [decide_eq_false h]
    exact firstN_before p 4 1 r h1 (by omega)

set_option maxHeartbeats 8000000 in
set_option maxRecDepth 100000 in
theorem law3_walk (x p0 p1 q : Int) (w : World) (hx0 : 0 ≤ x) (hx : x ≤ 255) (h00 : 0 ≤ p0) (h01 : p0 ≤ 255) (h10 : 0 ≤ p1) (h11 : p1 ≤ 255) (hq0 : 0 ≤ q) (hq : q ≤ 65535)
    (F : Facts (1 + x % 30) (p0 % (1 + x % 30 + 1)) (p1 % (1 + x % 30 + 1)) (1 + q)) :
    Calls Try.prog 5 #[.int .u8 x, .agg #[.int .u8 p0, .int .u8 p1], .int .u16 q] w fun e w' => e = .returned (.bool true) ∧ Below w.heap.size w w' := by
  have HB := Aside0.mk (Below.refl w.heap.size w)
  have HF := Aside0.mk F
  clear F
  have hu49 := Try.underlying49
  go_enter Try.func5, Try.ntmps5
  go_wp2
  go_quiet (fail)
  go_wp2_with fail
  have hn1 : 1 ≤ 1 + x % 30 := by omega
  have hn2 : 1 + x % 30 ≤ 30 := by omega
  have hb1 : 0 ≤ p0 % (1 + x % 30 + 1) := Int.emod_nonneg _ (by omega)
  have hb2 : p0 % (1 + x % 30 + 1) ≤ 1 + x % 30 := by have := Int.emod_lt_of_pos p0 (show 0 < 1 + x % 30 + 1 by omega); omega
  have hc1 : 0 ≤ p1 % (1 + x % 30 + 1) := Int.emod_nonneg _ (by omega)
  have hc2 : p1 % (1 + x % 30 + 1) ≤ 1 + x % 30 := by have := Int.emod_lt_of_pos p1 (show 0 < 1 + x % 30 + 1 by omega); omega
  generalize p0 % (1 + x % 30 + 1) = b at *
  generalize p1 % (1 + x % 30 + 1) = c at *
  generalize 1 + x % 30 = n at *
  obtain ⟨x0, y0, em, hx0', hxy, ht⟩ := HF.out.miss
  have Em := Aside0.mk em
  obtain ⟨k1, g1⟩ := (missV n b c (by omega) (by omega)).rounds
  rw [em] at g1
  have G1 := Aside0.mk g1
  clear g1 em
  refine (verdict_Miss.calls _ _ _ _ _ _ _ _ G1.out).mono ?_
  rintro e w1 ⟨rfl, h1⟩
  replace HB := Aside0.mk (below_step (by repeat (first | exact HB.out | apply below_alloc | apply pw_below_drewN | apply below_drew1)) h1)
  clear h1
  have t2 : decide (x0 < 0) = false := by simp; omega
  have t3 : decide (y0 < x0) = false := by simp; omega
  go_upto_if 80 with (fail)

  clear ht t2 t3
  go_cut [6] (fun v6 wc => v6 = .bool false ∧ Aside0 (Below w.heap.size w wc))
  case first =>
    by_cases hlt : b < n
    · obtain ⟨x1, y1, e1, l1⟩ := HF.out.bad hlt
      have hless := l1 _ _ _ Em.out
      obtain ⟨k2, g2⟩ := (missV n (b + 1) c (by omega) (by omega)).rounds
      rw [e1] at g2
      have G2 := Aside0.mk g2
      have HL := Aside0.mk hless
      clear g2 e1 l1 hless
      go_wp2_with fail
      refine (verdict_Miss.calls _ _ _ _ _ _ _ _ G2.out).mono ?_
      rintro e w2 ⟨rfl, h1⟩
      replace HB := Aside0.mk (below_step (by repeat (first | exact HB.out | apply below_alloc | apply pw_below_drewN | apply below_drew1)) h1)
      clear h1
      go_wp2_with fail
      refine (less_calls _ _ _ _ _ HL.out).mono ?_
      rintro e w3 ⟨rfl, h1⟩
      replace h1 := h1.below
      replace HB := Aside0.mk (below_step (by repeat (first | exact HB.out | apply below_alloc | apply pw_below_drewN | apply below_drew1)) h1)
      clear h1
      go_wp2
      go_meet
      case rel => exact ⟨rfl, HB⟩
    · go_wp2
      go_meet
      case rel => exact ⟨rfl, HB⟩
  case rest =>
  clear HB
  obtain ⟨rfl, HB⟩ := hcut
  go_upto_if 102 with (fail)
  go_cut [6] (fun v6 wc => v6 = .bool false ∧ Aside0 (Below w.heap.size w wc))
  case first =>
    by_cases hlt : c < n
    · obtain ⟨x1, y1, e1, l1⟩ := HF.out.check hlt
      have hless := l1 _ _ _ Em.out
      obtain ⟨k2, g2⟩ := (missV n b (c + 1) (by omega) (by omega)).rounds
      rw [e1] at g2
      have G2 := Aside0.mk g2
      have HL := Aside0.mk hless
      clear g2 e1 l1 hless
      go_wp2_with fail
      refine (verdict_Miss.calls _ _ _ _ _ _ _ _ G2.out).mono ?_
      rintro e w2 ⟨rfl, h1⟩
      replace HB := Aside0.mk (below_step (by repeat (first | exact HB.out | apply below_alloc | apply pw_below_drewN | apply below_drew1)) h1)
      clear h1
      go_wp2_with fail
      refine (less_calls _ _ _ _ _ HL.out).mono ?_
      rintro e w3 ⟨rfl, h1⟩
      replace h1 := h1.below
      replace HB := Aside0.mk (below_step (by repeat (first | exact HB.out | apply below_alloc | apply pw_below_drewN | apply below_drew1)) h1)
      clear h1
      go_wp2
      go_meet
      case rel => exact ⟨rfl, HB⟩
    · go_wp2
      go_meet
      case rel => exact ⟨rfl, HB⟩
  case rest =>
  clear HB
  obtain ⟨rfl, HB⟩ := hcut
  clear Em G1
  go_upto_if 126 with (fail)
  go_cut [6] (fun v6 wc => v6 = .bool false ∧ Aside0 (Below w.heap.size w wc))
  case first =>
    by_cases hlt : 0 < b
    · obtain ⟨m, e1, m0, m1, e2, e3⟩ := HF.out.least hlt
      obtain ⟨k2, g2⟩ := (leastV n b (1 + q) (by omega) (by omega)).rounds
      obtain ⟨k3, g3⟩ := (enoughV n b m 1 (1 + q) (by omega) (by omega)).rounds
      obtain ⟨k4, g4⟩ := (enoughV n b (m - 1) 1 (1 + q) (by omega) (by omega)).rounds
      rw [e1] at g2
      rw [e2] at g3
      have G2 := Aside0.mk g2
      have G3 := Aside0.mk g3
      have G4 := Aside0.mk g4
      have E3 := Aside0.mk e3
      clear g2 g3 g4 e1 e2 e3
      have d2 : decide (m < 0) = false := by simp; omega
      have d3 : decide (n < m) = false := by simp; omega
      go_wp2_with fail
      refine (verdict_Least.calls _ _ _ _ _ _ _ G2.out).mono ?_
      rintro e w2 ⟨rfl, h1⟩
      replace HB := Aside0.mk (below_step (by repeat (first | exact HB.out | apply below_alloc | apply pw_below_drewN | apply below_drew1)) h1)
      clear h1
      go_wp2_with fail
      refine (verdict_Enough.calls _ _ _ _ _ _ _ _ _ G3.out).mono ?_
      rintro e w3 ⟨rfl, h1⟩
      replace HB := Aside0.mk (below_step (by repeat (first | exact HB.out | apply below_alloc | apply pw_below_drewN | apply below_drew1)) h1)
      clear h1
      by_cases hm : 0 < m
      · have g4 := G4.out
        rw [E3.out hm] at g4
        replace G4 := Aside0.mk g4
        clear g4
        go_wp2_with fail
        refine (verdict_Enough.calls _ _ _ _ _ _ _ _ _ G4.out).mono ?_
        rintro e w4 ⟨rfl, h1⟩
        replace HB := Aside0.mk (below_step (by repeat (first | exact HB.out | apply below_alloc | apply pw_below_drewN | apply below_drew1)) h1)
        clear h1
        go_wp2
        go_meet
        case rel => exact ⟨rfl, HB⟩
      · go_wp2
        go_meet
        case rel => exact ⟨rfl, HB⟩
    · go_wp2
      go_meet
      case rel => exact ⟨rfl, HB⟩
  case rest =>
  clear HB
  obtain ⟨rfl, HB⟩ := hcut
  obtain ⟨p, hp, hmono, hr⟩ := HF.out.rounds
  have hf := firstN_lo p 4 1
  have hpf : ∀ r : Int, 1 ≤ r → r ≤ 4 → p r = decide (firstN p 4 1 ≤ r) := first_mono p hmono
  obtain ⟨k5, g5⟩ := (roundsV n b c (1 + q) (by omega) (by omega)).rounds
  rw [hr] at g5
  have G5 := Aside0.mk g5
  have HP := Aside0.mk hp
  have HPF := Aside0.mk hpf
  clear g5 hr hp hpf hmono
  generalize firstN p 4 1 = f at *
  go_wp2_with fail
  go_loopw [26, 27, 28] (fun v26 v27 v28 wr => ∃ r : Int, 1 ≤ r ∧ r ≤ 5 ∧ v28 = .int .i64 r ∧ v26 = .bool (decide (f < r)) ∧ v27 = .int .i64 (if f < r then f else 0) ∧ Aside0 (Below w.heap.size w wr)) (fun _ _ v28 _ => (5 - intOf v28).toNat)
  case atStart =>
    have s1 : decide (f < 1) = false := by simp; omega
    have s2 : (if f < 1 then f else 0) = 0 := by rw [if_neg (by omega)]
    exact ⟨1, by omega, by omega, rfl, by rw [s1], by rw [s2], HB⟩
  case round =>
    clear HB
    obtain ⟨r, r1, r5, rfl, rfl, rfl, HB⟩ := hrel
    by_cases hr4 : r ≤ 4
    · obtain ⟨k6, g6⟩ := (enoughV n b c r (1 + q) (by omega) (by omega)).rounds
      rw [HP.out r r1 hr4] at g6
      rcases Int.lt_trichotomy f r with hfr | hfr | hfr
      · have c1 : decide (f < r) = true := by simp; omega
        have c2 : (if f < r then f else 0) = f := by split <;> omega
        have c3 : p r = true := by rw [HPF.out r r1 hr4]; simp; omega
        rw [c3] at g6
        have G6 := Aside0.mk g6
        rw [c1, c2]
        clear g6 c1 c2 c3
        go_wp2_with fail
        refine (verdict_Enough.calls _ _ _ _ _ _ _ _ _ G6.out).mono ?_
        rintro e w2 ⟨rfl, h1⟩
        replace HB := Aside0.mk (below_step (by repeat (first | exact HB.out | apply below_alloc | apply pw_below_drewN | apply below_drew1)) h1)
        clear h1
        go_wp2
        go_roundw
        case rel => exact ⟨r + 1, by omega, by omega, rfl, by rw [show decide (f < r + 1) = true by simp; omega], by rw [if_pos (by omega)], HB⟩
        case measure => simp [intOf]; omega
      · have c1 : decide (f < r) = false := by simp; omega
        have c2 : (if f < r then f else 0) = 0 := by split <;> omega
        have c3 : p r = true := by rw [HPF.out r r1 hr4]; simp; omega
        rw [c3] at g6
        have G6 := Aside0.mk g6
        rw [c1, c2]
        clear g6 c1 c2 c3
        go_wp2_with fail
        refine (verdict_Enough.calls _ _ _ _ _ _ _ _ _ G6.out).mono ?_
        rintro e w2 ⟨rfl, h1⟩
        replace HB := Aside0.mk (below_step (by repeat (first | exact HB.out | apply below_alloc | apply pw_below_drewN | apply below_drew1)) h1)
        clear h1
        go_wp2
        go_roundw
        case rel => exact ⟨r + 1, by omega, by omega, rfl, by rw [show decide (f < r + 1) = true by simp; omega], by rw [if_pos (by omega), hfr], HB⟩
        case measure => simp [intOf]; omega
      · have c1 : decide (f < r) = false := by simp; omega
        have c2 : (if f < r then f else 0) = 0 := by split <;> omega
        have c3 : p r = false := by rw [HPF.out r r1 hr4]; simp; omega
        rw [c3] at g6
        have G6 := Aside0.mk g6
        rw [c1, c2]
        clear g6 c1 c2 c3
        go_wp2_with fail
        refine (verdict_Enough.calls _ _ _ _ _ _ _ _ _ G6.out).mono ?_
        rintro e w2 ⟨rfl, h1⟩
        replace HB := Aside0.mk (below_step (by repeat (first | exact HB.out | apply below_alloc | apply pw_below_drewN | apply below_drew1)) h1)
        clear h1
        go_wp2
        go_roundw
        case rel => exact ⟨r + 1, by omega, by omega, rfl, by rw [show decide (f < r + 1) = false by simp; omega], by rw [if_neg (by omega)], HB⟩
        case measure => simp [intOf]; omega
    · obtain rfl : r = 5 := by omega
      by_cases hf4 : f > 4
      · have g5 := G5.out
        rw [if_pos hf4] at g5
        replace G5 := Aside0.mk g5
        rw [if_neg (show ¬ f < 5 by omega)]
        clear g5
        go_wp2_with fail
        refine (verdict_Rounds.calls _ _ _ _ _ _ _ _ G5.out).mono ?_
        rintro e w2 ⟨rfl, h1⟩
        replace HB := Aside0.mk (below_step (by repeat (first | exact HB.out | apply below_alloc | apply pw_below_drewN | apply below_drew1)) h1)
        clear h1
        go_wp2_with fail
        refine (quietuslaw46_sanity.calls true _ rfl).mono ?_
        rintro e w3 ⟨rfl, h1⟩
        replace HB := Aside0.mk (below_step (by repeat (first | exact HB.out | apply below_alloc | apply pw_below_drewN | apply below_drew1)) h1)
        clear h1
        go_wp2
        go_ret
        exact ⟨rfl, HB.out⟩
      · have g5 := G5.out
        rw [if_neg hf4] at g5
        replace G5 := Aside0.mk g5
        rw [if_pos (show f < 5 by omega)]
        clear g5
        have f0 : decide (0 < f) = true := by simp; omega
        go_wp2_with fail
        refine (verdict_Rounds.calls _ _ _ _ _ _ _ _ G5.out).mono ?_
        rintro e w2 ⟨rfl, h1⟩
        replace HB := Aside0.mk (below_step (by repeat (first | exact HB.out | apply below_alloc | apply pw_below_drewN | apply below_drew1)) h1)
        clear h1
        go_wp2_with fail
        refine (quietuslaw46_sanity.calls true _ rfl).mono ?_
        rintro e w3 ⟨rfl, h1⟩
        replace HB := Aside0.mk (below_step (by repeat (first | exact HB.out | apply below_alloc | apply pw_below_drewN | apply below_drew1)) h1)
        clear h1
        go_wp2
        go_ret
        exact ⟨by simp, HB.out⟩
end Go.Proofs.Ytkmfaiehhfjjmaa.A
