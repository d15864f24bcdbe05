/- What the functions of chapter 46 (verdict, and the reference's of that chapter) come to: Choose and Miss. -/
import Derived.Test.YtkmfaiehhfjjmaaV2
import Derived.Test.YtkmfaiehhfjjmaaV3
import Derived.Test.YtkmfaiehhfjjmaaV4
import Derived.Test.YtkmfaiehhfjjmaaV5
import Derived.Test.YtkmfaiehhfjjmaaMath
import Derived.Laws.MathBits
namespace Go.Proofs.Ytkmfaiehhfjjmaa.A
open Go.RowKit Go.Proofs.Ytkmfaiehhfjjmaa.V Go.Proofs.Ytkmfaiehhfjjmaa.Math Go.Proofs.YtkmfaiehhfjjmaaW.PrintWords Go.Proofs.YtkmfaiehhfjjmaaW.PrintLast

theorem w64 (n : Int) (h0 : -9223372036854775808 ≤ n) (h1 : n ≤ 9223372036854775807) : wrap64 n = n := by unfold wrap64; omega
theorem wu64 (n : Int) (h0 : 0 ≤ n) (h1 : n < 18446744073709551616) : IntKind.u64.wrap n = n := by rw [IntKind.wrap_u64]; omega

theorem mul64 (a b : Int) (ha : 0 ≤ a) (ha' : a < 18446744073709551616) (hb : 0 ≤ b) (hb' : b < 18446744073709551616) :
    bits_Mul64.f a b = some (a * b / 18446744073709551616, a * b % 18446744073709551616) := by
  unfold bits_Mul64.f
  have h := mul64_arith a b ha ha' hb hb'
  rw [and_low32 a ha ha', and_low32 b hb hb']
  simp only [IntKind.wrap_u64]
  rw [and_low32 _ (Int.emod_nonneg _ (by omega)) (Int.emod_lt_of_pos _ (by omega)), h]

/-! ### choose -/
theorem choose_loop (n c : Nat) (hn : n ≤ 60) (hc : c ≤ n) : ∀ d i k, i + d = c → d < k →
    verdict_choose.l0 k n (bin n i) c i = some (bin n c : Int)
  | 0, i, k, hi, hk => by
    obtain ⟨k, rfl⟩ : ∃ m, k = m + 1 := ⟨k - 1, by omega⟩
    obtain rfl : i = c := by omega
    have hb := bin_le60 n i hn
    have : (2 : Nat) ^ 59 = 576460752303423488 := rfl
    simp only [verdict_choose.l0]
    rw [if_neg (by omega), w64 _ (by omega) (by omega)]
  | d + 1, i, k, hi, hk => by
    obtain ⟨k, rfl⟩ : ∃ m, k = m + 1 := ⟨k - 1, by omega⟩
    have hb := bin_le60 n i hn
    have hb' := bin_le60 n (i + 1) hn
    have : (2 : Nat) ^ 59 = 576460752303423488 := rfl
    have hs := bin_step n i hn
    have hm := bin_mul n i
    simp only [verdict_choose.l0]
    rw [if_pos (by omega), w64 _ (by omega) (by omega), w64 _ (by omega) (by omega), wu64 _ (by omega) (by omega), wu64 _ (by omega) (by omega),
      mul64 _ _ (by omega) (by omega) (by omega) (by omega)]
    have e : ((bin n i : Int) * ((n : Int) - (i : Int))) = ((bin n i * (n - i) : Nat) : Int) := by
      rw [Int.natCast_mul, Int.natCast_sub (by omega)]
    have e0 : ((bin n i * (n - i) : Nat) : Int) / 18446744073709551616 = 0 := by omega
    have e1 : ((bin n i * (n - i) : Nat) : Int) % 18446744073709551616 = ((bin n i * (n - i) : Nat) : Int) := by omega
    rw [e, e0, e1]
    simp only [Option.bind_some, bits_Div64.f]
    rw [if_pos trivial, if_pos (by omega)]
    simp only [Option.bind_some]
    have e2 : Int.tdiv ((bin n i * (n - i) : Nat) : Int) ((i : Int) + 1) = (bin n (i + 1) : Int) := by
      rw [← hm]
      have : ((i : Int) + 1) = ((i + 1 : Nat) : Int) := by omega
      rw [this, ← Int.ofNat_tdiv, Nat.mul_div_cancel _ (by omega)]
    rw [e2, wu64 _ (by omega) (by omega)]
    have := choose_loop n c hn hc d (i + 1) k (by omega) (by omega)
    rw [Int.natCast_add] at this
    exact this

theorem choose_eq (n c k : Nat) (hn : n ≤ 60) (hc : c ≤ n) (hk : 100 ≤ k) : verdict_choose.f k n c = some (bin n c : Int) := by
  unfold verdict_choose.f
  rw [w64 _ (by omega) (by omega)]
  have e : mn (c : Int) ((n : Int) - c) = ((min c (n - c) : Nat) : Int) := by unfold mn; split <;> omega
  rw [e]
  have h := choose_loop n (min c (n - c)) hn (by omega) (min c (n - c)) 0 k (by omega) (by omega)
  rw [bin_zero] at h
  rw [show (1 : Int) = ((1 : Nat) : Int) from rfl, show (0 : Int) = ((0 : Nat) : Int) from rfl, h]
  rcases Nat.le_total c (n - c) with g | g
  · rw [Nat.min_eq_left g]
  · rw [Nat.min_eq_right g, bin_symm n c hc]

/-! ### the reference's Sets -/
def rowI (n : Nat) : List Int := (List.range (n + 1)).map fun j => (bin n j : Int)
theorem rowI_length (n : Nat) : (rowI n).length = n + 1 := by simp [rowI]
theorem rd_rowI (n j : Nat) (hj : j ≤ n) : rd (rowI n) (j : Int) = (bin n j : Int) := by
  unfold rd rowI
  simp [List.getD_eq_getElem?_getD, List.getElem?_map, List.getElem?_range (show j < n + 1 by omega)]

theorem rowI_succ (n : Nat) : rowI (n + 1) = ((List.range (n + 1)).map fun j => (bin (n + 1) j : Int)) ++ [1] := by
  unfold rowI
  rw [List.range_succ, List.map_append]
  simp [bin_self]

theorem inner_loop (n0 c0 i : Nat) (hi : i < 60) (r : Int)
    (hout : Ev (fun k => quietusref46_Sets.l0 k n0 c0 (rowI (i + 1)) ((i : Int) + 1)) r) :
    ∀ d j, j + d = i + 1 → 1 ≤ j → Ev (fun k => quietusref46_Sets.l1 k n0 c0 (rowI i) i ((List.range j).map fun q => (bin (i + 1) q : Int)) j) r
  | 0, j, hj, _ => by
    refine Ev.step (f := fun k => quietusref46_Sets.l0 k n0 c0 (rowI (i + 1)) ((i : Int) + 1)) (fun k => ?_) hout
    obtain rfl : j = i + 1 := by omega
    simp only [quietusref46_Sets.l1]
    rw [if_neg (by rw [rowI_length]; omega), if_pos (by simp; omega), ← rowI_succ, w64 _ (by omega) (by omega)]
  | d + 1, j, hj, h1 => by
    refine Ev.step (fun k => ?_) (inner_loop n0 c0 i hi r hout d (j + 1) (by omega) (by omega))
    simp only [quietusref46_Sets.l1]
    have b1 := bin_le60 i (j - 1) (by omega)
    have b2 := bin_le60 i j (by omega)
    have : (2 : Nat) ^ 59 = 576460752303423488 := rfl
    rw [if_pos (by rw [rowI_length]; omega), w64 ((j : Int) - 1) (by omega) (by omega), if_pos (by omega), if_pos (by rw [rowI_length]; omega), if_pos (by omega), if_pos (by simp; omega)]
    have e : ((j : Int) - 1) = ((j - 1 : Nat) : Int) := by omega
    rw [e, rd_rowI i (j - 1) (by omega), rd_rowI i j (by omega), w64 ((bin i (j - 1) : Int) + _) (by omega) (by omega), w64 ((j : Int) + 1) (by omega) (by omega), List.range_succ, List.map_append]
    obtain ⟨q, rfl⟩ : ∃ q, j = q + 1 := ⟨j - 1, by omega⟩
    simp [bin_succ]

theorem sets_loop (n c : Nat) (hn : n ≤ 60) (hc : c ≤ n) : ∀ d i, i + d = n → Ev (fun k => quietusref46_Sets.l0 k n c (rowI i) i) (bin n c : Int)
  | 0, i, hi => by
    obtain rfl : i = n := by omega
    refine Ev.step (f := fun _ => some (bin i c : Int)) (fun k => ?_) (Ev.now _)
    simp only [quietusref46_Sets.l0]
    rw [if_neg (by omega), if_pos (by omega), if_pos (by rw [rowI_length]; omega), rd_rowI i c hc]
  | d + 1, i, hi => by
    have h := inner_loop n c i (by omega) _ (by simpa using sets_loop n c hn hc d (i + 1) (by omega)) i 1 (by omega) (by omega)
    refine Ev.step (fun k => ?_) h
    simp only [quietusref46_Sets.l0]
    rw [if_pos (by omega)]
    simp [bin_zero]

theorem sets_eq (n c : Nat) (hn : n ≤ 60) (hc : c ≤ n) : Ev (fun k => quietusref46_Sets.f k n c) (bin n c : Int) := by
  have := sets_loop n c hn hc n 0 (by omega)
  exact this
theorem choose_ev (n c : Nat) (hn : n ≤ 60) (hc : c ≤ n) : Ev (fun k => verdict_choose.f k n c) (bin n c : Int) := ⟨100, fun k hk => choose_eq n c k hn hc hk⟩

/-! ### the greatest common divisor -/
theorem gcd_loop : ∀ y x : Nat, Ev (fun k => quietusref46_common.l0 k x y) (Nat.gcd x y : Int) := by
  intro y
  induction y using Nat.strongRecOn with
  | _ y ih =>
    intro x
    by_cases h : y = 0
    · subst h
      refine Ev.step (f := fun _ => some (x : Int)) (fun k => ?_) (by simpa using Ev.now (x : Int))
      simp only [quietusref46_common.l0]
      rw [if_neg (by omega)]
    · have := ih (x % y) (Nat.mod_lt _ (by omega)) y
      rw [Nat.gcd_comm y, ← Nat.gcd_rec, Nat.gcd_comm] at this
      refine Ev.step (fun k => ?_) this
      simp only [quietusref46_common.l0]
      rw [if_pos (by omega), if_neg (by omega), ← Int.ofNat_tmod]
theorem miss_loop (a b : Int) (r : Int × Int × Int) : ∀ y x : Nat, 0 < Nat.gcd x y → r = (wrap64 (Int.tdiv a (Nat.gcd x y)), wrap64 (Int.tdiv b (Nat.gcd x y)), 0) → Ev (fun k => verdict_Miss.l0 k a b x y) r := by
  intro y
  induction y using Nat.strongRecOn with
  | _ y ih =>
    intro x hg hr
    by_cases h : y = 0
    · subst h
      rw [Nat.gcd_zero_right] at *
      refine Ev.step (f := fun _ => some r) (fun k => ?_) (Ev.now _)
      simp only [verdict_Miss.l0]
      rw [if_neg (by omega), if_neg (by omega), hr]
    · have e : Nat.gcd y (x % y) = Nat.gcd x y := by rw [Nat.gcd_comm y, ← Nat.gcd_rec, Nat.gcd_comm]
      refine Ev.step (fun k => ?_) (ih (x % y) (Nat.mod_lt _ (by omega)) y (by rw [e]; exact hg) (by rw [e]; exact hr))
      simp only [verdict_Miss.l0]
      rw [if_pos (by omega), if_neg (by omega), ← Int.ofNat_tmod]

/-! ### Choose, Miss: what both return -/
def chooseS (n c : Int) : Int × Int := if n < 0 ∨ c < 0 then (0, 1) else if n > 60 then (0, 2) else if c > n then (0, 0) else (bin n.toNat c.toNat, 0)
def missS (n b c : Int) : Int × Int × Int :=
  if n > 60 then (0, 0, 2) else if n < 1 ∨ b < 0 ∨ b > n ∨ c < 0 ∨ c > n then (0, 0, 1) else if c > n - b then (0, 1, 0)
  else let x := bin (n - b).toNat c.toNat; let y := bin n.toNat c.toNat; (x / Nat.gcd x y, y / Nat.gcd x y, 0)
end Go.Proofs.Ytkmfaiehhfjjmaa.A
