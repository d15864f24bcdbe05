/- What Choose, Miss and Enough of chapter 46 come to, in the program and in the reference. -/
import Derived.Test.YtkmfaiehhfjjmaaA1
import Derived.Test.YtkmfaiehhfjjmaaV6
namespace Go.Proofs.Ytkmfaiehhfjjmaa.A
open Go.RowKit Go.Proofs.Ytkmfaiehhfjjmaa.V Go.Proofs.Ytkmfaiehhfjjmaa.Math Go.Proofs.YtkmfaiehhfjjmaaW.PrintWords Go.Proofs.YtkmfaiehhfjjmaaW.PrintLast

theorem ev_step1 {α : Type} {g : Nat → Option α} {r : α} (h : ∀ k, g (k + 1) = some r) : Ev g r := Ev.step (f := fun _ => some r) h (Ev.now r)

theorem chooseV (n c : Int) : Ev (fun k => verdict_Choose.f k n c) (chooseS n c) := by
  unfold chooseS
  by_cases h1 : n < 0
  · rw [if_pos (.inl h1)]
    refine ev_step1 fun k => ?_
    simp only [verdict_Choose.f]
    rw [if_pos h1]; simp [verdict_Choose.j0]
  by_cases h2 : c < 0
  · rw [if_pos (.inr h2)]
    refine ev_step1 fun k => ?_
    simp only [verdict_Choose.f]
    rw [if_neg h1]; simp [verdict_Choose.j0, h2]
  rw [if_neg (by omega)]
  by_cases h3 : n > 60
  · rw [if_pos h3]
    refine ev_step1 fun k => ?_
    simp only [verdict_Choose.f]
    rw [if_neg h1]; simp [verdict_Choose.j0, h2, h3]
  rw [if_neg h3]
  by_cases h4 : c > n
  · rw [if_pos h4]
    refine ev_step1 fun k => ?_
    simp only [verdict_Choose.f]
    rw [if_neg h1]; simp [verdict_Choose.j0, h2, h3, h4]
  rw [if_neg h4]
  obtain ⟨n, rfl⟩ := Int.eq_ofNat_of_zero_le (show 0 ≤ n by omega)
  obtain ⟨c, rfl⟩ := Int.eq_ofNat_of_zero_le (show 0 ≤ c by omega)
  refine Ev.step (f := fun k => (verdict_choose.f k n c).bind fun t => some (t, 0)) (fun k => ?_) (Ev.bind (choose_ev n c (by omega) (by omega)) (Ev.now _))
  simp only [verdict_Choose.f]
  rw [if_neg h1]; simp [verdict_Choose.j0, h2, h3, h4]

theorem chooseR (n c : Int) : Ev (fun k => quietusref46_Choose.f k n c) (chooseS n c) := by
  unfold chooseS
  by_cases h1 : n < 0
  · rw [if_pos (.inl h1)]
    refine ev_step1 fun k => ?_
    simp only [quietusref46_Choose.f]
    rw [if_pos h1]; simp [quietusref46_Choose.j0]
  by_cases h2 : c < 0
  · rw [if_pos (.inr h2)]
    refine ev_step1 fun k => ?_
    simp only [quietusref46_Choose.f]
    rw [if_neg h1]; simp [quietusref46_Choose.j0, h2]
  rw [if_neg (by omega)]
  by_cases h3 : n > 60
  · rw [if_pos h3]
    refine ev_step1 fun k => ?_
    simp only [quietusref46_Choose.f]
    rw [if_neg h1]; simp [quietusref46_Choose.j0, h2, h3]
  rw [if_neg h3]
  by_cases h4 : c > n
  · rw [if_pos h4]
    refine ev_step1 fun k => ?_
    simp only [quietusref46_Choose.f]
    rw [if_neg h1]; simp [quietusref46_Choose.j0, h2, h3, h4]
  rw [if_neg h4]
  obtain ⟨n, rfl⟩ := Int.eq_ofNat_of_zero_le (show 0 ≤ n by omega)
  obtain ⟨c, rfl⟩ := Int.eq_ofNat_of_zero_le (show 0 ≤ c by omega)
  refine Ev.step (f := fun k => (quietusref46_Sets.f k n c).bind fun t => some (t, 0)) (fun k => ?_) (Ev.bind (sets_eq n c (by omega) (by omega)) (Ev.now _))
  simp only [quietusref46_Choose.f]
  rw [if_neg h1]; simp [quietusref46_Choose.j0, h2, h3, h4]

theorem gcd_bin (n b c : Nat) (h : c ≤ n - b) : 0 < Nat.gcd (bin (n - b) c) (bin n c) := Nat.gcd_pos_of_pos_left _ (bin_pos _ _ h)
theorem div_small (n c g : Nat) (hn : n ≤ 60) : wrap64 (Int.tdiv (bin n c : Int) (g : Int)) = ((bin n c / g : Nat) : Int) := by
  have h := bin_le60 n c hn
  have : (2 : Nat) ^ 59 = 576460752303423488 := rfl
  have h2 := Nat.div_le_self (bin n c) g
  rw [← Int.ofNat_tdiv]
  generalize bin n c / g = q at *
  rw [w64 _ (by omega) (by omega)]

theorem missV (n b c : Int) (_hn : -9223372036854775808 ≤ n) (_hb : -9223372036854775808 ≤ b) : Ev (fun k => verdict_Miss.f k n b c) (missS n b c) := by
  unfold missS
  by_cases h1 : n > 60
  · rw [if_pos h1]
    exact ⟨0, fun k _ => by simp [verdict_Miss.f, h1]⟩
  rw [if_neg h1]
  by_cases h2 : n < 1 ∨ b < 0 ∨ b > n ∨ c < 0 ∨ c > n
  · rw [if_pos h2]
    refine ev_step1 fun k => ?_
    by_cases e1 : n < 1
    · simp [verdict_Miss.f, verdict_Miss.j0, h1, e1]
    by_cases e2 : b < 0
    · simp [verdict_Miss.f, verdict_Miss.j0, h1, e1, e2]
    by_cases e3 : b > n
    · simp [verdict_Miss.f, verdict_Miss.j0, h1, e1, e2, e3]
    by_cases e4 : c < 0
    · simp [verdict_Miss.f, verdict_Miss.j0, h1, e1, e2, e3, e4]
    have e5 : c > n := by omega
    simp [verdict_Miss.f, verdict_Miss.j0, h1, e1, e2, e3, e4, e5]
  rw [if_neg h2]
  have e1 : ¬ n < 1 := by omega
  have e2 : ¬ b < 0 := by omega
  have e3 : ¬ b > n := by omega
  have e4 : ¬ c < 0 := by omega
  have e5 : ¬ c > n := by omega
  have ew : wrap64 (n - b) = n - b := w64 _ (by omega) (by omega)
  by_cases h3 : c > n - b
  · rw [if_pos h3]
    refine ev_step1 fun k => ?_
    simp [verdict_Miss.f, verdict_Miss.j0, h1, e1, e2, e3, e4, e5, ew, h3]
  rw [if_neg h3]
  obtain ⟨n, rfl⟩ := Int.eq_ofNat_of_zero_le (show 0 ≤ n by omega)
  obtain ⟨b, rfl⟩ := Int.eq_ofNat_of_zero_le (show 0 ≤ b by omega)
  obtain ⟨c, rfl⟩ := Int.eq_ofNat_of_zero_le (show 0 ≤ c by omega)
  have es : ((n : Int) - (b : Int)) = ((n - b : Nat) : Int) := by omega
  have h4 := gcd_bin n b c (by omega)
  refine Ev.step (f := fun k => (verdict_choose.f k ((n - b : Nat) : Int) c).bind fun t => (verdict_choose.f k n c).bind fun u => verdict_Miss.l0 k t u t u) (fun k => ?_)
    (Ev.bind (choose_ev (n - b) c (by omega) (by omega)) (Ev.bind (choose_ev n c (by omega) (by omega)) (miss_loop _ _ _ _ _ h4 ?_)))
  · rw [← es]; simp [verdict_Miss.f, verdict_Miss.j0, h1, e1, e2, e3, e4, e5, ew, h3]
  · rw [div_small _ _ _ (by omega), div_small _ _ _ (by omega), es]; simp

theorem missR (n b c : Int) (_hn : -9223372036854775808 ≤ n) (_hb : -9223372036854775808 ≤ b) : Ev (fun k => quietusref46_Miss.f k n b c) (missS n b c) := by
  unfold missS
  by_cases h1 : n > 60
  · rw [if_pos h1]
    exact ⟨0, fun k _ => by simp [quietusref46_Miss.f, h1]⟩
  rw [if_neg h1]
  by_cases h2 : n < 1 ∨ b < 0 ∨ b > n ∨ c < 0 ∨ c > n
  · rw [if_pos h2]
    refine ev_step1 fun k => ?_
    by_cases e1 : n < 1
    · simp [quietusref46_Miss.f, quietusref46_Miss.j0, h1, e1]
    by_cases e2 : b < 0
    · simp [quietusref46_Miss.f, quietusref46_Miss.j0, h1, e1, e2]
    by_cases e3 : b > n
    · simp [quietusref46_Miss.f, quietusref46_Miss.j0, h1, e1, e2, e3]
    by_cases e4 : c < 0
    · simp [quietusref46_Miss.f, quietusref46_Miss.j0, h1, e1, e2, e3, e4]
    have e5 : c > n := by omega
    simp [quietusref46_Miss.f, quietusref46_Miss.j0, h1, e1, e2, e3, e4, e5]
  rw [if_neg h2]
  have e1 : ¬ n < 1 := by omega
  have e2 : ¬ b < 0 := by omega
  have e3 : ¬ b > n := by omega
  have e4 : ¬ c < 0 := by omega
  have e5 : ¬ c > n := by omega
  have ew : wrap64 (n - b) = n - b := w64 _ (by omega) (by omega)
  by_cases h3 : c > n - b
  · rw [if_pos h3]
    refine ev_step1 fun k => ?_
    simp [quietusref46_Miss.f, quietusref46_Miss.j0, h1, e1, e2, e3, e4, e5, ew, h3]
  rw [if_neg h3]
  obtain ⟨n, rfl⟩ := Int.eq_ofNat_of_zero_le (show 0 ≤ n by omega)
  obtain ⟨b, rfl⟩ := Int.eq_ofNat_of_zero_le (show 0 ≤ b by omega)
  obtain ⟨c, rfl⟩ := Int.eq_ofNat_of_zero_le (show 0 ≤ c by omega)
  have es : ((n : Int) - (b : Int)) = ((n - b : Nat) : Int) := by omega
  have h4 := gcd_bin n b c (by omega)
  refine Ev.step (f := fun k => (quietusref46_Sets.f k ((n - b : Nat) : Int) c).bind fun t => (quietusref46_Sets.f k n c).bind fun u => (quietusref46_common.f k t u).bind fun g => if g = 0 then none else some (wrap64 (Int.tdiv t g), wrap64 (Int.tdiv u g), 0)) (fun k => ?_)
    (Ev.bind (sets_eq (n - b) c (by omega) (by omega)) (Ev.bind (sets_eq n c (by omega) (by omega)) (Ev.bind (gcd_loop _ _) ?_)))
  · rw [← es]; simp [quietusref46_Miss.f, quietusref46_Miss.j0, h1, e1, e2, e3, e4, e5, ew, h3]
  · refine ⟨0, fun k _ => ?_⟩
    simp only []
    rw [if_neg (by omega), div_small _ _ _ (by omega), div_small _ _ _ (by omega), es]; simp
end Go.Proofs.Ytkmfaiehhfjjmaa.A
