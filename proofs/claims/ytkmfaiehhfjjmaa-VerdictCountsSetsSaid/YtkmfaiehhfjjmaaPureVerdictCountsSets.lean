/- For at most 12 blocks, any of which are bad, and a number of checks: of all sets of so many blocks, counted one by one, exactly the part that Miss says has none of the bad ones; so it is for pairs of sets of at most 6 blocks, and two rounds: the plain statement of the law VerdictCountsSets. No condition. -/
import Derived.Test.YtkmfaiehhfjjmaaV7
import Derived.Test.YtkmfaiehhfjjmaaA4
import Derived.OpenShut
namespace Go.Proofs.Ytkmfaiehhfjjmaa.Pure
open Go.RowKit Go.Proofs.Ytkmfaiehhfjjmaa.V Go.Proofs.Ytkmfaiehhfjjmaa.A Go.Proofs.Ytkmfaiehhfjjmaa.Math Go.Proofs.YtkmfaiehhfjjmaaW.PrintWords Go.Proofs.YtkmfaiehhfjjmaaW.PrintLast Go.Proofs.YtkmfaiehhfjjmaaW.PrintMore

theorem count_loop : ∀ (f x : Nat) (acc : Nat), x < 2 ^ f → acc + f ≤ 1000 → f ≤ 40 → Ev (fun k => quietusref07_Count.l0 k x acc) ((acc + ones f x : Nat) : Int)
  | 0, x, acc, h, _, _ => by
    obtain rfl : x = 0 := by simp at h; omega
    refine ev_step1 fun k => ?_
    simp [quietusref07_Count.l0, ones]
  | f + 1, x, acc, h, ha, hf => by
    by_cases e : x = 0
    · subst e
      refine ev_step1 fun k => ?_
      have z : ∀ g, ones g 0 = 0 := fun g => by induction g with
        | zero => rfl
        | succ g ih => rw [ones]; simpa using ih
      simp [quietusref07_Count.l0, z]
    · have hx : x < 2 ^ 40 := Nat.lt_of_lt_of_le h (Nat.pow_le_pow_right (by omega) hf)
      have : (2 : Nat) ^ 40 = 1099511627776 := rfl
      have e0 : acc + ones (f + 1) x = acc + x % 2 + ones f (x / 2) := by rw [ones]; omega
      rw [e0]
      refine Ev.step (fun k => ?_) (count_loop f (x / 2) (acc + x % 2) (by rw [Nat.pow_succ] at h; omega) (by omega) (by omega))
      simp only [quietusref07_Count.l0]
      rw [if_pos (by omega)]
      have e1 : wrap64 (Int.tdiv (x : Int) 2) = ((x / 2 : Nat) : Int) := by
        rw [show (2 : Int) = ((2 : Nat) : Int) from rfl, ← Int.ofNat_tdiv, w64 _ (by omega) (by omega)]
      have e2 : wrap64 ((acc : Int) + Int.tmod (x : Int) 2) = ((acc + x % 2 : Nat) : Int) := by
        rw [show (2 : Int) = ((2 : Nat) : Int) from rfl, ← Int.ofNat_tmod, w64 _ (by omega) (by omega)]; omega
      rw [e1, e2]


theorem count_ev (f x : Nat) (h : x < 2 ^ f) (hf : f ≤ 40) : Ev (fun k => quietusref07_Count.f k x) (ones f x : Int) := by
  have := count_loop f x 0 h (by omega) hf
  rw [Nat.zero_add] at this
  exact this

theorem apart_iff : ∀ f s t : Nat, s < 2 ^ f → (apart f s t = true ↔ s &&& t = 0)
  | 0, s, t, h => by
    obtain rfl : s = 0 := by simp at h; omega
    simp [apart]
  | f + 1, s, t, h => by
    have ih := apart_iff f (s / 2) (t / 2) (by rw [Nat.pow_succ] at h; omega)
    have e1 : (s &&& t) / 2 = s / 2 &&& t / 2 := Nat.and_div_two
    have e2 : (s &&& t) % 2 = 1 ↔ s % 2 = 1 ∧ t % 2 = 1 := Nat.and_mod_two_eq_one
    rw [apart, Bool.and_eq_true, ih, ← e1]
    simp only [Bool.not_eq_true', Bool.and_eq_false_iff, beq_eq_false_iff_ne]
    constructor
    · rintro ⟨h1, h2⟩
      by_cases g : (s &&& t) % 2 = 1
      · have := e2.1 g; omega
      · omega
    · intro h0
      rw [h0] at e2 ⊢
      refine ⟨?_, rfl⟩
      by_cases g : s % 2 = 1
      · right; intro g2; have := e2.2 ⟨g, g2⟩; omega
      · left; exact g

theorem and64 (a b : Nat) (ha : a < 2 ^ 62) (hb : b < 2 ^ 62) : Go.bits .and .i64 (a : Int) (b : Int) = ((a &&& b : Nat) : Int) :=
  (bits_nat .i64 62 (by decide) (fun n h0 h1 => by rw [IntKind.wrap_i64]; omega) a b ha hb).1

theorem pow12 (n : Nat) (hn : n ≤ 12) : 2 ^ n ≤ 4096 := Nat.le_trans (Nat.pow_le_pow_right (by omega) hn) (by decide)
theorem bin_le12 (n k : Nat) (hn : n ≤ 12) : bin n k ≤ 4096 := by
  cases n with
  | zero => cases k <;> simp [bin]
  | succ n => exact Nat.le_trans (bin_le n k) (pow12 n (by omega))
theorem count_le (p : Nat → Bool) : ∀ m, count p m ≤ m
  | 0 => Nat.le_refl _
  | m + 1 => by rw [count]; have := count_le p m; split <;> omega

/-- behind the counting -/
def After (n t k a b : Nat) (r : Bool) : Prop :=
  Ev (fun q => (quietusref07_Count.f q t).bind fun t216 => ((verdict_Miss.f q n t216 k).bind fun bt217 => ((verdict_Choose.f q n k).bind fun bt220 => (if bt217.2.2 = 0 then (if bt220.2 = 0 then (if bt217.2.1 < 1 then (quietuslaw46_VerdictCountsSets.j1 q n t k a b true) else (if (wrap64 (bt217.1 * a)) = (wrap64 (bt217.2.1 * b)) then (quietuslaw46_VerdictCountsSets.j1 q n t k a b (bt220.1 != a)) else (quietuslaw46_VerdictCountsSets.j1 q n t k a b true))) else (quietuslaw46_VerdictCountsSets.j1 q n t k a b true)) else (quietuslaw46_VerdictCountsSets.j1 q n t k a b true))))) r

theorem sets_loop (n t k : Nat) (hn : n ≤ 12) (ht : t < 2 ^ n) (hk : k ≤ n) (r : Bool)
    (hafter : After n t k (count (fun s => ones n s == k) (2 ^ n)) (count (fun s => ones n s == k && apart n s t) (2 ^ n)) r) :
    ∀ (d s : Nat), s + d = 2 ^ n → Ev (fun q => quietuslaw46_VerdictCountsSets.l0 q n t k (count (fun s => ones n s == k) s) (count (fun s => ones n s == k && apart n s t) s) ((2 ^ n : Nat) : Int) s) r
  | 0, s, h => by
    obtain rfl : s = 2 ^ n := by omega
    refine Ev.step (fun q => ?_) hafter
    simp only [quietuslaw46_VerdictCountsSets.l0]
    rw [if_neg (by omega)]
  | d + 1, s, h => by
    have hp := pow12 n hn
    have c1 := count_le (fun s => ones n s == k) s
    have c2 := count_le (fun s => ones n s == k && apart n s t) s
    have big : (4096 : Nat) < 2 ^ 62 := by decide
    have next := sets_loop n t k hn ht hk r hafter d (s + 1) (by omega)
    refine Ev.step (f := fun q => (quietusref07_Count.f q s).bind fun t215 => (if t215 = (k : Int) then (if ((s &&& t : Nat) : Int) = 0 then (quietuslaw46_VerdictCountsSets.l0 q n t k ((count (fun s => ones n s == k) s : Int) + 1) ((count (fun s => ones n s == k && apart n s t) s : Int) + 1) ((2 ^ n : Nat) : Int) ((s : Int) + 1)) else (quietuslaw46_VerdictCountsSets.l0 q n t k ((count (fun s => ones n s == k) s : Int) + 1) (count (fun s => ones n s == k && apart n s t) s) ((2 ^ n : Nat) : Int) ((s : Int) + 1))) else (quietuslaw46_VerdictCountsSets.l0 q n t k (count (fun s => ones n s == k) s) (count (fun s => ones n s == k && apart n s t) s) ((2 ^ n : Nat) : Int) ((s : Int) + 1)))) (fun q => ?_) (Ev.bind (count_ev n s (by omega) (by omega)) ?_)
    · simp only [quietuslaw46_VerdictCountsSets.l0]
      rw [if_pos (by omega), and64 s t (by omega) (by omega), w64 ((count (fun s => ones n s == k) s : Int) + 1) (by omega) (by omega), w64 ((count (fun s => ones n s == k && apart n s t) s : Int) + 1) (by omega) (by omega), w64 ((s : Int) + 1) (by omega) (by omega)]
    · have ha := apart_iff n s t (by omega)
      by_cases e : ones n s = k
      · simp only [e, if_true]
        by_cases g : s &&& t = 0
        · have ga := ha.2 g
          simp only [g]
          have n1 : count (fun s => ones n s == k) (s + 1) = count (fun s => ones n s == k) s + 1 := by rw [count]; simp [e]
          have n2 : count (fun s => ones n s == k && apart n s t) (s + 1) = count (fun s => ones n s == k && apart n s t) s + 1 := by rw [count]; simp [e, ga]
          rw [n1, n2] at next
          simpa using next
        · have ga : apart n s t = false := by cases h : apart n s t with
            | true => exact absurd (ha.1 h) g
            | false => rfl
          have n1 : count (fun s => ones n s == k) (s + 1) = count (fun s => ones n s == k) s + 1 := by rw [count]; simp [e]
          have n2 : count (fun s => ones n s == k && apart n s t) (s + 1) = count (fun s => ones n s == k && apart n s t) s := by rw [count]; simp [ga]
          rw [n1, n2] at next
          have g' : ¬ ((s &&& t : Nat) : Int) = 0 := by omega
          simp only [if_neg g']
          simpa using next
      · have e' : ¬ ((ones n s : Nat) : Int) = (k : Int) := by omega
        simp only [if_neg e']
        have n1 : count (fun s => ones n s == k) (s + 1) = count (fun s => ones n s == k) s := by rw [count]; simp [e]
        have n2 : count (fun s => ones n s == k && apart n s t) (s + 1) = count (fun s => ones n s == k && apart n s t) s := by rw [count]; simp [e]
        rw [n1, n2] at next
        simpa using next

theorem enough_two (n b k : Nat) (o : Int) (h1 : 1 ≤ n) (h2 : n ≤ 12) (hb : b ≤ n) (hk : k ≤ n) (ho : 1 ≤ o) (ho' : o ≤ 400) :
    enoughS n b k 2 o = (decide (wrap64 (o * wrap64 ((bin (n - b) k : Int) * bin (n - b) k)) ≤ wrap64 ((bin n k : Int) * bin n k)), 0) := by
  obtain ⟨num, den, g, hm, hg, eB, eA, hd⟩ := miss_parts n b k h1 (by omega) hb hk
  unfold enoughS
  rw [hm]
  simp only [if_true]
  rw [if_neg (by omega), if_neg (by omega)]
  have lA := bin_le12 n k h2
  have lB := bin_le12 (n - b) k (by omega)
  have pB : bin (n - b) k * bin (n - b) k ≤ 4096 * 4096 := Nat.mul_le_mul lB lB
  have pA : bin n k * bin n k ≤ 4096 * 4096 := Nat.mul_le_mul lA lA
  obtain ⟨o, rfl⟩ := Int.eq_ofNat_of_zero_le (show 0 ≤ o by omega)
  have po : o * (bin (n - b) k * bin (n - b) k) ≤ 400 * (4096 * 4096) := Nat.mul_le_mul (by omega) pB
  have wB : wrap64 ((bin (n - b) k : Int) * bin (n - b) k) = ((bin (n - b) k * bin (n - b) k : Nat) : Int) := by rw [← Int.natCast_mul, w64 _ (by omega) (by omega)]
  have wA : wrap64 ((bin n k : Int) * bin n k) = ((bin n k * bin n k : Nat) : Int) := by rw [← Int.natCast_mul, w64 _ (by omega) (by omega)]
  have wo : wrap64 ((o : Int) * ((bin (n - b) k * bin (n - b) k : Nat) : Int)) = ((o * (bin (n - b) k * bin (n - b) k) : Nat) : Int) := by rw [← Int.natCast_mul, w64 _ (by omega) (by omega)]
  rw [wB, wA, wo]
  congr 1
  rw [decide_eq_decide]
  have e2 : ((2 : Int)).toNat = 2 := rfl
  rw [e2, Int.pow_succ, Int.pow_succ, Int.pow_zero, Int.one_mul, Int.pow_succ, Int.pow_succ, Int.pow_zero, Int.one_mul, ← Int.natCast_mul, ← Int.natCast_mul, ← Int.natCast_mul, Int.ofNat_le, Int.ofNat_le, eA, eB]
  have f1 : o * (num * g * (num * g)) = (o * (num * num)) * (g * g) := by
    rw [Nat.mul_mul_mul_comm num g num g, ← Nat.mul_assoc]
  have f2 : den * g * (den * g) = (den * den) * (g * g) := Nat.mul_mul_mul_comm _ _ _ _
  rw [f1, f2]
  have hgg : 0 < g * g := Nat.mul_pos hg hg
  exact ⟨fun h => Nat.mul_le_mul_right _ h, fun h => Nat.le_of_mul_le_mul_right h hgg⟩

theorem odds_loop (n t k : Nat) (h1 : 1 ≤ n) (h2 : n ≤ 12) (ht : t < 2 ^ n) (hk : k ≤ n) : ∀ (d i : Nat), i + d = 5 →
    Ev (fun q => quietuslaw46_VerdictCountsSets.l1 q n t k (wrap64 ((bin n k : Int) * bin n k)) (wrap64 ((bin (n - ones n t) k : Int) * bin (n - ones n t) k)) [1, 2, 5, 20, 400] (([1, 2, 5, 20, 400] : List Int).length : Int) i) true
  | 0, i, h => by
    obtain rfl : i = 5 := by omega
    refine ev_step1 fun q => ?_
    simp [quietuslaw46_VerdictCountsSets.l1, quietuslaw46_sanity.f]
  | d + 1, i, h => by
    have ob : 1 ≤ rd [1, 2, 5, 20, 400] (i : Int) ∧ rd [1, 2, 5, 20, 400] (i : Int) ≤ 400 := by
      have : i = 0 ∨ i = 1 ∨ i = 2 ∨ i = 3 ∨ i = 4 := by omega
      rcases this with rfl | rfl | rfl | rfl | rfl <;> decide
    have he := enough_two n (ones n t) k (rd [1, 2, 5, 20, 400] (i : Int)) h1 h2 (ones_le n t) hk ob.1 ob.2
    refine Ev.step (f := fun q => (quietusref07_Count.f q t).bind fun t228 => ((verdict_Enough.f q n t228 k 2 (rd [1, 2, 5, 20, 400] (i : Int))).bind fun bt229 => (if bt229.2 = 0 then (if (bt229.1 != (decide ((wrap64 ((rd [1, 2, 5, 20, 400] (i : Int)) * (wrap64 ((bin (n - ones n t) k : Int) * bin (n - ones n t) k)))) ≤ (wrap64 ((bin n k : Int) * bin n k))))) = true then (some false) else (quietuslaw46_VerdictCountsSets.l1 q n t k (wrap64 ((bin n k : Int) * bin n k)) (wrap64 ((bin (n - ones n t) k : Int) * bin (n - ones n t) k)) [1, 2, 5, 20, 400] (([1, 2, 5, 20, 400] : List Int).length : Int) ((i + 1 : Nat) : Int))) else (some false)))) (fun q => ?_)
      (Ev.bind (count_ev n t ht (by omega)) (Ev.bind (enoughV n (ones n t) k 2 (rd [1, 2, 5, 20, 400] (i : Int)) (by omega) (by omega)) ?_))
    · simp only [quietuslaw46_VerdictCountsSets.l1]
      rw [if_pos (by simp; omega), if_pos (by omega), if_pos (by simp; omega), w64 ((i : Int) + 1) (by omega) (by omega)]
      rfl
    · rw [he]
      have := odds_loop n t k h1 h2 ht hk d (i + 1) (by omega)
      simpa using this

theorem after_all (n t k : Nat) (h1 : 1 ≤ n) (h2 : n ≤ 12) (ht : t < 2 ^ n) (hk : k ≤ n) : After n t k (bin n k) (bin (n - ones n t) k) true := by
  obtain ⟨num, den, g, hm, hg, eB, eA, hd⟩ := miss_parts n (ones n t) k h1 (by omega) (ones_le n t) hk
  have hc : chooseS n k = ((bin n k : Int), 0) := by
    unfold chooseS
    rw [if_neg (by omega), if_neg (by omega), if_neg (by omega)]; simp
  unfold After
  refine Ev.bind (count_ev n t ht (by omega)) (Ev.bind (missV n (ones n t) k (by omega) (by omega)) (Ev.bind (chooseV n k) ?_))
  rw [hm, hc]
  have lA := bin_le12 n k h2
  have lB := bin_le12 (n - ones n t) k (by omega)
  have ld : den ≤ 4096 := by
    have := Nat.le_mul_of_pos_right den hg
    omega
  have ln : num ≤ 4096 := by
    have := Nat.le_mul_of_pos_right num hg
    omega
  have p1 : num * bin n k ≤ 4096 * 4096 := Nat.mul_le_mul ln lA
  have p2 : den * bin (n - ones n t) k ≤ 4096 * 4096 := Nat.mul_le_mul ld lB
  have e : wrap64 ((num : Int) * (bin n k : Int)) = wrap64 ((den : Int) * (bin (n - ones n t) k : Int)) := by
    rw [← Int.natCast_mul, ← Int.natCast_mul, eA, eB, Nat.mul_left_comm]
  have hd' : ¬ (den : Int) < 1 := by omega
  simp only [if_true, if_neg hd', e]
  simp only [bne_self_eq_false]
  by_cases h6 : (n : Int) > 6
  · refine ev_step1 fun q => ?_
    simp [quietuslaw46_VerdictCountsSets.j1, h6, quietuslaw46_sanity.f]
  · refine Ev.step (fun q => ?_) (odds_loop n t k h1 h2 ht hk 5 0 (by omega))
    simp [quietuslaw46_VerdictCountsSets.j1, h6]

theorem VerdictCountsSets : quietuslaw46_VerdictCountsSets.Pure := by
  intro a0 a1 a2 w0 w1 w2
  have b0 := bounds_u8 w0
  have b1 := bounds_u16 w1
  have b2 := bounds_u8 w2
  obtain ⟨x, rfl⟩ := Int.eq_ofNat_of_zero_le b0.1
  obtain ⟨y, rfl⟩ := Int.eq_ofNat_of_zero_le b1.1
  obtain ⟨z, rfl⟩ := Int.eq_ofNat_of_zero_le b2.1
  apply Ev.rounds
  have h1 : 1 ≤ 1 + x % 12 := by omega
  have h2 : 1 + x % 12 ≤ 12 := by omega
  have hp := pow12 (1 + x % 12) h2
  have hpos : 0 < 2 ^ (1 + x % 12) := Nat.pow_pos (by omega)
  have hz := Nat.mod_lt z (show 0 < 1 + x % 12 + 1 by omega)
  have key := sets_loop (1 + x % 12) (y % 2 ^ (1 + x % 12)) (z % (1 + x % 12 + 1)) h2 (Nat.mod_lt _ hpos) (by omega) true (by
    rw [count_ones, count_apart]
    exact after_all (1 + x % 12) (y % 2 ^ (1 + x % 12)) (z % (1 + x % 12 + 1)) h1 h2 (Nat.mod_lt _ hpos) (by omega)) (2 ^ (1 + x % 12)) 0 (by omega)
  unfold quietuslaw46_VerdictCountsSets.f
  have en : wrap64 (1 + Int.tmod (wrap64 (x : Int)) 12) = ((1 + x % 12 : Nat) : Int) := by
    rw [w64 (x : Int) (by omega) (by omega), show (12 : Int) = ((12 : Nat) : Int) from rfl, ← Int.ofNat_tmod, w64 _ (by omega) (by omega)]; omega
  have es : shl .i64 1 ((1 + x % 12 : Nat) : Int) = ((2 ^ (1 + x % 12) : Nat) : Int) := by
    unfold shl
    have : min (((1 + x % 12 : Nat) : Int)).toNat (IntKind.bits .i64) = 1 + x % 12 := by
      simp only [IntKind.bits, Int.toNat_natCast]; omega
    rw [this, Int.one_mul, show (2 : Int) = ((2 : Nat) : Int) from rfl, ← Int.natCast_pow]
    exact IntWalk.i64_in _ (by omega)
  have e1 : wrap64 (((1 + x % 12 : Nat) : Int) + 1) = ((1 + x % 12 + 1 : Nat) : Int) := by rw [w64 _ (by omega) (by omega)]; rfl
  simp only [en, es, e1]
  rw [w64 (y : Int) (by omega) (by omega), w64 (z : Int) (by omega) (by omega), ← Int.ofNat_tmod, ← Int.ofNat_tmod]
  have g1 : (0 : Int) ≤ ((1 + x % 12 : Nat) : Int) := by omega
  have g2 : ¬ ((2 ^ (1 + x % 12) : Nat) : Int) = 0 := by omega
  have g3 : ¬ ((1 + x % 12 + 1 : Nat) : Int) = 0 := by omega
  simp only [if_pos g1, if_neg g2, if_neg g3]
  exact key
end Go.Proofs.Ytkmfaiehhfjjmaa.Pure
