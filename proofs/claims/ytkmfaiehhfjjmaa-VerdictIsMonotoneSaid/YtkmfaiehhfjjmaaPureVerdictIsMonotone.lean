/- With a check more, a bad block more, or a round more the chance to miss is not greater; it is zero exactly if more blocks are checked than are good; Least and Rounds are the least ones: the plain facts of the law VerdictIsMonotone, for 1 to 30 blocks. -/
import Derived.Test.YtkmfaiehhfjjmaaL3
namespace Go.Proofs.Ytkmfaiehhfjjmaa.A
open Go.RowKit Go.Proofs.Ytkmfaiehhfjjmaa.V Go.Proofs.Ytkmfaiehhfjjmaa.Math Go.Proofs.YtkmfaiehhfjjmaaW.PrintWords Go.Proofs.YtkmfaiehhfjjmaaW.PrintLast

theorem cross (x y x0 y0 g g0 A B A0 B0 : Nat) (hg : 0 < g) (hg0 : 0 < g0) (eA : A = x * g) (eB : B = y * g) (eA0 : A0 = x0 * g0) (eB0 : B0 = y0 * g0) (h : A * B0 ≤ A0 * B) : x * y0 ≤ x0 * y := by
  subst eA eB eA0 eB0
  have e1 : x * g * (y0 * g0) = x * y0 * (g * g0) := Nat.mul_mul_mul_comm _ _ _ _
  have e2 : x0 * g0 * (y * g) = x0 * y * (g * g0) := by rw [Nat.mul_mul_mul_comm, Nat.mul_comm g0 g]
  rw [e1, e2] at h
  exact Nat.le_of_mul_le_mul_right h (Nat.mul_pos hg hg0)
theorem wrap_cross (x y x0 y0 : Nat) (h1 : x ≤ 155117520) (h2 : y ≤ 155117520) (h3 : x0 ≤ 155117520) (h4 : y0 ≤ 155117520) (h : x * y0 ≤ x0 * y) : wrap64 ((x : Int) * (y0 : Int)) ≤ wrap64 ((x0 : Int) * (y : Int)) := by
  have p1 : x * y0 ≤ 155117520 * 155117520 := Nat.mul_le_mul h1 h4
  have p2 : x0 * y ≤ 155117520 * 155117520 := Nat.mul_le_mul h3 h2
  rw [← Int.natCast_mul, ← Int.natCast_mul, w64 _ (by omega) (by omega), w64 _ (by omega) (by omega)]
  omega
theorem part_le (m n k g : Nat) (hn : n ≤ 30) (hg : 0 < g) (h : bin n k = m * g) : m ≤ 155117520 := by
  have := bin_le30 n k hn
  have := Nat.le_mul_of_pos_right m hg
  omega

theorem enough_ok (n b c r o : Int) (h1 : 1 ≤ n) (h2 : n ≤ 30) (hb : 0 ≤ b) (hb' : b ≤ n) (hc : 0 ≤ c) (hc' : c ≤ n) (hr : 1 ≤ r) (hr' : r ≤ 4) (ho : 1 ≤ o) (ho' : o ≤ 100000) :
    enoughS n b c r o = (decide (o * (missS n b c).1 ^ r.toNat ≤ (missS n b c).2.1 ^ r.toNat), 0) := by
  have e : (missS n b c).2.2 = 0 := by
    unfold missS
    rw [if_neg (by omega), if_neg (by omega)]
    split <;> rfl
  unfold enoughS
  rw [if_pos e, if_neg (by omega), if_neg (by omega)]

theorem facts (n b c o : Int) (h1 : 1 ≤ n) (h2 : n ≤ 30) (hb : 0 ≤ b) (hb' : b ≤ n) (hc : 0 ≤ c) (hc' : c ≤ n) (ho : 1 ≤ o) (ho' : o ≤ 100000) : Facts n b c o := by
  have hok := fun c r hc hc' hr hr' => enough_ok n b c r o h1 h2 hb hb' hc hc' hr hr' ho ho'
  refine ⟨?_, ?_, ?_, ?_, ?_⟩
  · obtain ⟨n, rfl⟩ := Int.eq_ofNat_of_zero_le (show 0 ≤ n by omega)
    obtain ⟨b, rfl⟩ := Int.eq_ofNat_of_zero_le hb
    obtain ⟨c, rfl⟩ := Int.eq_ofNat_of_zero_le hc
    obtain ⟨num, den, g, hm, hg, eB, eA, hd⟩ := miss_parts n b c (by omega) (by omega) (by omega) (by omega)
    refine ⟨_, _, hm, by omega, ?_, ?_⟩
    · have := bin_mono (show n - b ≤ n by omega) c
      rw [eB, eA] at this
      have := Nat.le_of_mul_le_mul_right this hg
      omega
    · by_cases h : n - b < c
      · have : num * g = 0 := by rw [← eB]; exact bin_out _ _ h
        have : num = 0 := by
          rcases Nat.mul_eq_zero.1 this with h | h
          · exact h
          · omega
        subst this
        have e : ((n : Int) - (b : Int) < (c : Int)) := by omega
        simp [e]
      · have h3 := bin_pos (n - b) c (by omega)
        have : num ≠ 0 := by intro h0; subst h0; simp at eB; omega
        have e : ¬ ((n : Int) - (b : Int) < (c : Int)) := by omega
        simp [e]; omega
  · intro hlt
    obtain ⟨n, rfl⟩ := Int.eq_ofNat_of_zero_le (show 0 ≤ n by omega)
    obtain ⟨b, rfl⟩ := Int.eq_ofNat_of_zero_le hb
    obtain ⟨c, rfl⟩ := Int.eq_ofNat_of_zero_le hc
    obtain ⟨x, y, g, hm, hg, eA, eB, _⟩ := miss_parts n (b + 1) c (by omega) (by omega) (by omega) (by omega)
    obtain ⟨x0, y0, g0, hm0, hg0, eA0, eB0, _⟩ := miss_parts n b c (by omega) (by omega) (by omega) (by omega)
    refine ⟨_, _, hm, fun x1 y1 e he => ?_⟩
    rw [hm0] at he
    simp only [Prod.mk.injEq] at he
    obtain ⟨rfl, rfl, _⟩ := he
    refine wrap_cross x y x0 y0 (part_le _ _ _ _ (by omega) hg eA) (part_le _ _ _ _ (by omega) hg eB) (part_le _ _ _ _ (by omega) hg0 eA0) (part_le _ _ _ _ (by omega) hg0 eB0) (cross _ _ _ _ _ _ _ _ _ _ hg hg0 eA eB eA0 eB0 ?_)
    exact Nat.mul_le_mul_right _ (bin_mono (by omega) c)
  · intro hlt
    obtain ⟨n, rfl⟩ := Int.eq_ofNat_of_zero_le (show 0 ≤ n by omega)
    obtain ⟨b, rfl⟩ := Int.eq_ofNat_of_zero_le hb
    obtain ⟨c, rfl⟩ := Int.eq_ofNat_of_zero_le hc
    obtain ⟨x, y, g, hm, hg, eA, eB, _⟩ := miss_parts n b (c + 1) (by omega) (by omega) (by omega) (by omega)
    obtain ⟨x0, y0, g0, hm0, hg0, eA0, eB0, _⟩ := miss_parts n b c (by omega) (by omega) (by omega) (by omega)
    refine ⟨_, _, hm, fun x1 y1 e he => ?_⟩
    rw [hm0] at he
    simp only [Prod.mk.injEq] at he
    obtain ⟨rfl, rfl, _⟩ := he
    refine wrap_cross x y x0 y0 (part_le _ _ _ _ (by omega) hg eA) (part_le _ _ _ _ (by omega) hg eB) (part_le _ _ _ _ (by omega) hg0 eA0) (part_le _ _ _ _ (by omega) hg0 eB0) (cross _ _ _ _ _ _ _ _ _ _ hg hg0 eA eB eA0 eB0 ?_)
    exact bin_check n b c (by omega)
  · intro hlt
    have l1 := firstN_lo (fun c => (enoughS n b c 1 o).1) n.toNat 0
    refine ⟨firstN (fun c => (enoughS n b c 1 o).1) n.toNat 0, ?_, by omega, by omega, ?_, ?_⟩
    · unfold leastS
      rw [if_neg (by omega), if_neg (by omega)]
    · by_cases e : firstN (fun c => (enoughS n b c 1 o).1) n.toNat 0 < 0 + n.toNat
      · have h := firstN_is (fun c => (enoughS n b c 1 o).1) n.toNat 0 e
        have h2 := hok (firstN (fun c => (enoughS n b c 1 o).1) n.toNat 0) 1 (by omega) (by omega) (by omega) (by omega)
        rw [h2] at h ⊢
        exact Prod.ext h rfl
      · have e2 : firstN (fun c => (enoughS n b c 1 o).1) n.toNat 0 = n := by omega
        rw [e2]
        have h := all_enough n b o (by omega) (by omega)
        rw [hok n 1 (by omega) (by omega) (by omega) (by omega)] at h ⊢
        exact Prod.ext h rfl
    · intro hm
      have h := firstN_before (fun c => (enoughS n b c 1 o).1) n.toNat 0 (firstN (fun c => (enoughS n b c 1 o).1) n.toNat 0 - 1) (by omega) (by omega)
      rw [hok _ 1 (by omega) (by omega) (by omega) (by omega)] at h ⊢
      exact Prod.ext h rfl
  · refine ⟨fun r => (enoughS n b c r o).1, fun r r1 r4 => ?_, fun r r1 r4 => ?_, ?_⟩
    · simp only
      rw [hok c r hc hc' r1 r4]
    · simp only
      rw [hok c r hc hc' r1 (by omega), hok c (r + 1) hc hc' (by omega) (by omega)]
      have hb2 := missS_bound n b c h2 (by
        unfold missS
        rw [if_neg (by omega), if_neg (by omega)]
        split <;> rfl)
      have hle : (missS n b c).1 ≤ (missS n b c).2.1 := by
        obtain ⟨n, rfl⟩ := Int.eq_ofNat_of_zero_le (show 0 ≤ n by omega)
        obtain ⟨b, rfl⟩ := Int.eq_ofNat_of_zero_le hb
        obtain ⟨c, rfl⟩ := Int.eq_ofNat_of_zero_le hc
        obtain ⟨num, den, g, hm, hg, eB, eA, hd⟩ := miss_parts n b c (by omega) (by omega) (by omega) (by omega)
        have := bin_mono (show n - b ≤ n by omega) c
        rw [eB, eA] at this
        have := Nat.le_of_mul_le_mul_right this hg
        rw [hm]; simp only; omega
      generalize (missS n b c).1 = x at *
      generalize (missS n b c).2.1 = y at *
      have er : (r + 1).toNat = r.toNat + 1 := by omega
      rw [er]
      simp only [decide_eq_true_eq]
      intro h
      rw [Int.pow_succ, Int.pow_succ, ← Int.mul_assoc]
      calc o * x ^ r.toNat * x ≤ y ^ r.toNat * x := Int.mul_le_mul_of_nonneg_right h hb2.1
        _ ≤ y ^ r.toNat * y := Int.mul_le_mul_of_nonneg_left hle (Int.pow_nonneg hb2.2.2.1)
    · unfold roundsS
      rw [hok c 1 hc hc' (by omega) (by omega)]
      rfl
end Go.Proofs.Ytkmfaiehhfjjmaa.A
