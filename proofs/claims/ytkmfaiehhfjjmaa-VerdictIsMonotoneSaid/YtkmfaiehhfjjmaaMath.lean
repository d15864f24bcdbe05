/- The numbers of sets of k of n things (binomial numbers), and what the proofs about chapter 46 need of them: no program in sight. -/
namespace Go.Proofs.Ytkmfaiehhfjjmaa.Math

def bin : Nat → Nat → Nat
  | _, 0 => 1
  | 0, _ + 1 => 0
  | n + 1, k + 1 => bin n k + bin n (k + 1)

theorem bin_zero (n : Nat) : bin n 0 = 1 := by cases n <;> rfl
theorem bin_succ (n k : Nat) : bin (n + 1) (k + 1) = bin n k + bin n (k + 1) := rfl

theorem bin_out : ∀ n k, n < k → bin n k = 0
  | 0, 0, h => by omega
  | 0, k + 1, _ => rfl
  | n + 1, 0, h => by omega
  | n + 1, k + 1, h => by rw [bin_succ, bin_out n k (by omega), bin_out n (k + 1) (by omega)]

theorem bin_self (n : Nat) : bin n n = 1 := by
  induction n with
  | zero => rfl
  | succ n ih => rw [bin_succ, ih, bin_out n (n + 1) (by omega)]

theorem bin_pos : ∀ n k, k ≤ n → 0 < bin n k
  | n, 0, _ => by rw [bin_zero]; omega
  | 0, k + 1, h => by omega
  | n + 1, k + 1, h => by rw [bin_succ]; have := bin_pos n k (by omega); omega

theorem bin_mul : ∀ n k, bin n (k + 1) * (k + 1) = bin n k * (n - k)
  | 0, 0 => rfl
  | 0, k + 1 => by simp [bin]
  | n + 1, 0 => by
    have := bin_mul n 0
    rw [bin_zero] at this
    rw [bin_succ, bin_zero, bin_zero]
    omega
  | n + 1, k + 1 => by
    have h1 := bin_mul n k
    have h2 := bin_mul n (k + 1)
    rw [bin_succ, bin_succ]
    by_cases h : k + 1 ≤ n
    · have e1 : n + 1 - (k + 1) = n - k := by omega
      rw [e1, Nat.add_mul, h2.symm.symm]
      rw [Nat.add_mul (bin n k), ← h1]
      obtain ⟨d, rfl⟩ : ∃ d, n = k + 1 + d := ⟨n - (k + 1), by omega⟩
      have e2 : k + 1 + d - k = d + 1 := by omega
      have e3 : k + 1 + d - (k + 1) = d := by omega
      rw [e3] at h2
      rw [e2, e3]
      generalize bin (k + 1 + d) (k + 1) = x
      have : x * (k + 1 + 1) + x * d = x * ((k + 1 + 1) + d) := (Nat.mul_add _ _ _).symm
      have : x * (k + 1) + x * (d + 1) = x * ((k + 1) + (d + 1)) := (Nat.mul_add _ _ _).symm
      have : (k + 1 + 1) + d = (k + 1) + (d + 1) := by omega
      simp_all
    · have e1 : n + 1 - (k + 1) = 0 := by omega
      rw [e1, bin_out n (k + 1) (by omega), bin_out n (k + 1 + 1) (by omega)]
      simp

theorem bin_pair : ∀ n k, bin n k + bin n (k + 1) ≤ 2 ^ n
  | 0, 0 => by decide
  | 0, k + 1 => by simp [bin]
  | n + 1, 0 => by
    have := bin_pair n 0
    rw [bin_zero] at this
    rw [bin_succ, bin_zero, bin_zero]
    have : 1 ≤ 2 ^ n := Nat.one_le_two_pow
    rw [Nat.pow_succ]; omega
  | n + 1, k + 1 => by
    have h1 := bin_pair n k
    have h2 := bin_pair n (k + 1)
    rw [bin_succ, bin_succ, Nat.pow_succ]; omega

theorem bin_le (n k : Nat) : bin (n + 1) k ≤ 2 ^ n := by
  cases k with
  | zero => rw [bin_zero]; exact Nat.one_le_two_pow
  | succ k => exact bin_pair n k

theorem bin_mul' (n k : Nat) : bin (n + 1) (k + 1) * (k + 1) = (n + 1) * bin n k := by
  rw [bin_succ, Nat.add_mul, bin_mul]
  by_cases h : k ≤ n
  · obtain ⟨d, rfl⟩ : ∃ d, n = k + d := ⟨n - k, by omega⟩
    have e : k + d - k = d := by omega
    rw [e, ← Nat.mul_add, Nat.mul_comm]
    have : k + 1 + d = k + d + 1 := by omega
    rw [this]
  · rw [bin_out n k (by omega)]; simp

/-- what a step of 'choose' makes fits in a word -/
theorem bin_step (n i : Nat) (hn : n ≤ 60) : bin n i * (n - i) ≤ 17300000000000000000 := by
  rw [← bin_mul]
  match n, hn with
  | 0, _ => cases i <;> simp [bin]
  | 1, _ =>
    rw [bin_mul']
    cases i <;> simp [bin]
  | m + 2, hn =>
    rw [bin_mul']
    have h1 := bin_le m i
    have h2 : 2 ^ m ≤ 2 ^ 58 := Nat.pow_le_pow_right (by omega) (by omega)
    calc (m + 1 + 1) * bin (m + 1) i ≤ 60 * 2 ^ 58 := Nat.mul_le_mul hn (Nat.le_trans h1 h2)
      _ ≤ _ := by decide

theorem bin_symm : ∀ n k, k ≤ n → bin n (n - k) = bin n k
  | 0, 0, _ => rfl
  | n + 1, 0, _ => by rw [bin_zero]; exact bin_self _
  | n + 1, k + 1, h => by
    have e : n + 1 - (k + 1) = n - k := by omega
    rw [e]
    by_cases hk : k = n
    · subst hk; rw [Nat.sub_self, bin_zero, bin_self]
    · obtain ⟨d, hd⟩ : ∃ d, n - k = d + 1 := ⟨n - k - 1, by omega⟩
      rw [hd, bin_succ, bin_succ]
      have h1 := bin_symm n (k + 1) (by omega)
      have h2 := bin_symm n k (by omega)
      have e1 : n - (k + 1) = d := by omega
      rw [e1] at h1; rw [hd] at h2
      omega
  | 0, k + 1, h => by omega

theorem bin_le60 (n k : Nat) (hn : n ≤ 60) : bin n k ≤ 2 ^ 59 := by
  cases n with
  | zero => cases k <;> simp [bin]
  | succ n => exact Nat.le_trans (bin_le n k) (Nat.pow_le_pow_right (by omega) (by omega))

/-- the rows of Pascal's triangle -/
def next : Nat → List Nat → List Nat
  | p, [] => [p]
  | p, x :: l => (p + x) :: next x l
def row : Nat → List Nat
  | 0 => [1]
  | n + 1 => next 0 (row n)

theorem next_get (f : Nat → Nat) : ∀ (m : Nat) (p a : Nat), next p ((List.range m).map fun j => f (a + j)) = (List.range (m + 1)).map fun j => (if j = 0 then p else f (a + j - 1)) + (if j = m then 0 else f (a + j))
  | 0, p, a => by simp [next]
  | m + 1, p, a => by
    have ih := next_get f m (f a) (a + 1)
    rw [List.range_succ_eq_map (n := m)]
    rw [List.map_cons, List.map_map]
    rw [next]
    have e : (List.map ((fun j => f (a + j)) ∘ Nat.succ) (List.range m)) = (List.range m).map fun j => f (a + 1 + j) := by
      apply List.map_congr_left; intro j _; simp only [Function.comp, Nat.succ_eq_add_one]; congr 1; omega
    rw [e, Nat.add_zero, ih, List.range_succ_eq_map (n := m + 1), List.map_cons, List.map_map]
    refine congr (congrArg List.cons (by simp)) ?_
    · apply List.map_congr_left; intro j _
      simp only [Function.comp, Nat.succ_eq_add_one]
      have e1 : a + (j + 1) - 1 = a + j := by omega
      have e2 : a + 1 + j - 1 = a + j := by omega
      have e3 : a + 1 + j = a + (j + 1) := by omega
      rw [e1, e2, e3]
      by_cases hj : j = 0
      · subst hj; by_cases hm : m = 0 <;> simp [hm, eq_comm]
      · simp [hj]

theorem row_eq (n : Nat) : row n = (List.range (n + 1)).map (bin n) := by
  induction n with
  | zero => rfl
  | succ n ih =>
    rw [row, ih]
    have := next_get (bin n) (n + 1) 0 0
    simp only [Nat.zero_add] at this
    rw [this]
    apply List.map_congr_left; intro j hj
    have hj' : j < n + 2 := by simpa using hj
    cases j with
    | zero => simp [bin_zero]
    | succ j =>
      simp only [Nat.add_sub_cancel, Nat.succ_ne_zero, if_false, bin_succ]
      by_cases h : j + 1 = n + 1
      · rw [if_pos h, bin_out n (j + 1) (by omega)]
      · rw [if_neg h]

theorem bin_up (n k : Nat) : bin n k ≤ bin (n + 1) k := by
  cases k with
  | zero => rw [bin_zero, bin_zero]; omega
  | succ k => rw [bin_succ]; omega
theorem bin_mono {n m : Nat} (h : n ≤ m) (k : Nat) : bin n k ≤ bin m k := by
  induction h with
  | refl => exact Nat.le_refl _
  | step _ ih => exact Nat.le_trans ih (bin_up _ _)
theorem row30 : ∀ x ∈ row 30, x ≤ 155117520 := by decide +kernel
theorem bin_le30 (n k : Nat) (hn : n ≤ 30) : bin n k ≤ 155117520 := by
  refine Nat.le_trans (bin_mono hn k) ?_
  by_cases h : k ≤ 30
  · apply row30
    rw [row_eq]
    exact List.mem_map.2 ⟨k, by simpa using (show k < 31 by omega), rfl⟩
  · rw [bin_out 30 k (by omega)]; omega

/-- with a check more, the part that misses is not greater -/
theorem bin_check (n b k : Nat) (hk : k + 1 ≤ n) : bin (n - b) (k + 1) * bin n k ≤ bin (n - b) k * bin n (k + 1) := by
  have h1 := bin_mul (n - b) k
  have h2 := bin_mul n k
  refine Nat.le_of_mul_le_mul_right (c := k + 1) ?_ (by omega)
  calc bin (n - b) (k + 1) * bin n k * (k + 1) = bin (n - b) (k + 1) * (k + 1) * bin n k := by rw [Nat.mul_right_comm]
    _ = bin (n - b) k * (n - b - k) * bin n k := by rw [h1]
    _ ≤ bin (n - b) k * (n - k) * bin n k := Nat.mul_le_mul_right _ (Nat.mul_le_mul_left _ (by omega))
    _ = bin (n - b) k * (bin n k * (n - k)) := by rw [Nat.mul_assoc, Nat.mul_comm (n - k)]
    _ = bin (n - b) k * (bin n (k + 1) * (k + 1)) := by rw [h2]
    _ = bin (n - b) k * bin n (k + 1) * (k + 1) := by rw [Nat.mul_assoc]

/-! sets, counted one by one -/
def ones : Nat → Nat → Nat
  | 0, _ => 0
  | f + 1, n => n % 2 + ones f (n / 2)
/-- have two sets nothing in common, among the first f places? -/
def apart : Nat → Nat → Nat → Bool
  | 0, _, _ => true
  | f + 1, s, t => !(s % 2 == 1 && t % 2 == 1) && apart f (s / 2) (t / 2)
def count (p : Nat → Bool) : Nat → Nat
  | 0 => 0
  | m + 1 => count p m + (if p m then 1 else 0)

theorem count_congr (p q : Nat → Bool) : ∀ m, (∀ i, i < m → p i = q i) → count p m = count q m
  | 0, _ => rfl
  | m + 1, h => by rw [count, count, count_congr p q m (fun i hi => h i (by omega)), h m (by omega)]

theorem count_two (p : Nat → Bool) (m : Nat) : count p (2 * m) = count (fun i => p (2 * i)) m + count (fun i => p (2 * i + 1)) m := by
  induction m with
  | zero => rfl
  | succ m ih =>
    have e : 2 * (m + 1) = 2 * m + 1 + 1 := by omega
    rw [e, count, count, ih, count, count]; omega

theorem count_none (m : Nat) (p : Nat → Bool) (h : ∀ i, p i = false) : count p m = 0 := by
  induction m with
  | zero => rfl
  | succ m ih => rw [count, ih, h]; rfl

theorem ones_le : ∀ f n, ones f n ≤ f
  | 0, _ => Nat.le_refl _
  | f + 1, n => by rw [ones]; have := ones_le f (n / 2); omega

theorem count_ones : ∀ n k, count (fun s => ones n s == k) (2 ^ n) = bin n k
  | 0, 0 => rfl
  | 0, k + 1 => by
    show (0 + if (ones 0 0 == k + 1) then 1 else 0) = 0
    simp [ones]
  | n + 1, k => by
    rw [Nat.pow_succ, Nat.mul_comm, count_two]
    have e0 : ∀ i, ones (n + 1) (2 * i) = ones n i := fun i => by rw [ones]; rw [show 2 * i % 2 = 0 by omega, show 2 * i / 2 = i by omega]; omega
    have e1 : ∀ i, ones (n + 1) (2 * i + 1) = ones n i + 1 := fun i => by rw [ones]; rw [show (2 * i + 1) % 2 = 1 by omega, show (2 * i + 1) / 2 = i by omega]; omega
    simp only [e0, e1]
    cases k with
    | zero =>
      rw [count_ones n 0, count_none _ _ (fun i => by simp), bin_zero, bin_zero]
    | succ k =>
      rw [count_ones n (k + 1), bin_succ]
      rw [count_congr _ (fun s => ones n s == k) _ (fun i _ => by simp), count_ones n k]; omega

theorem count_apart : ∀ n k t, count (fun s => ones n s == k && apart n s t) (2 ^ n) = bin (n - ones n t) k
  | 0, 0, t => rfl
  | 0, k + 1, t => by
    show (0 + if (ones 0 0 == k + 1 && apart 0 0 t) then 1 else 0) = bin (0 - ones 0 t) (k + 1)
    simp [ones, bin]
  | n + 1, k, t => by
    rw [Nat.pow_succ, Nat.mul_comm, count_two]
    have e0 : ∀ i, ones (n + 1) (2 * i) = ones n i := fun i => by rw [ones]; rw [show 2 * i % 2 = 0 by omega, show 2 * i / 2 = i by omega]; omega
    have e1 : ∀ i, ones (n + 1) (2 * i + 1) = ones n i + 1 := fun i => by rw [ones]; rw [show (2 * i + 1) % 2 = 1 by omega, show (2 * i + 1) / 2 = i by omega]; omega
    have a0 : ∀ i, apart (n + 1) (2 * i) t = apart n i (t / 2) := fun i => by rw [apart]; rw [show 2 * i % 2 = 0 by omega, show 2 * i / 2 = i by omega]; simp
    have a1 : ∀ i, apart (n + 1) (2 * i + 1) t = (!(t % 2 == 1) && apart n i (t / 2)) := fun i => by rw [apart]; rw [show (2 * i + 1) % 2 = 1 by omega, show (2 * i + 1) / 2 = i by omega]; simp
    simp only [e0, e1, a0, a1]
    have hle := ones_le n (t / 2)
    have ht : ones (n + 1) t = t % 2 + ones n (t / 2) := rfl
    rw [ht]
    by_cases h : t % 2 = 1
    · rw [count_apart n k (t / 2), count_none _ (fun i => ones n i + 1 == k && (!(t % 2 == 1) && apart n i (t / 2))) (fun i => by simp [h]), h]
      have : n + 1 - (1 + ones n (t / 2)) = n - ones n (t / 2) := by omega
      rw [this]; omega
    · have h0 : t % 2 = 0 := by omega
      rw [h0]
      have e : n + 1 - (0 + ones n (t / 2)) = (n - ones n (t / 2)) + 1 := by omega
      rw [e]
      cases k with
      | zero =>
        rw [count_apart n 0 (t / 2), count_none _ (fun i => ones n i + 1 == 0 && (!((0 : Nat) == 1) && apart n i (t / 2))) (fun i => by simp), bin_zero, bin_zero]
      | succ k =>
        rw [count_apart n (k + 1) (t / 2), bin_succ]
        rw [count_congr (fun i => ones n i + 1 == k + 1 && (!((0 : Nat) == 1) && apart n i (t / 2))) (fun s => ones n s == k && apart n s (t / 2)) _ (fun i _ => by simp), count_apart n k (t / 2)]; omega

end Go.Proofs.Ytkmfaiehhfjjmaa.Math
