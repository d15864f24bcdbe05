/- What Least and Rounds of chapter 46 come to, in the program and in the reference. -/
import Derived.Test.YtkmfaiehhfjjmaaA3
namespace Go.Proofs.Ytkmfaiehhfjjmaa.A
open Go.RowKit Go.Proofs.Ytkmfaiehhfjjmaa.V Go.Proofs.Ytkmfaiehhfjjmaa.Math Go.Proofs.YtkmfaiehhfjjmaaW.PrintWords Go.Proofs.YtkmfaiehhfjjmaaW.PrintLast

def firstN (p : Int → Bool) : Nat → Int → Int
  | 0, x => x
  | d + 1, x => if p x = true then x else firstN p d (x + 1)
theorem firstN_more (p : Int → Bool) : ∀ (d : Nat) (x : Int), p (x + d) = true → firstN p (d + 1) x = firstN p d x
  | 0, x, h => by simp at h; simp [firstN, h]
  | d + 1, x, h => by
    have e := firstN_more p d (x + 1) (by rw [← h]; congr 1; omega)
    show (if p x = true then x else firstN p (d + 1) (x + 1)) = (if p x = true then x else firstN p d (x + 1))
    rw [e]
theorem firstN_lo (p : Int → Bool) : ∀ d x, x ≤ firstN p d x ∧ firstN p d x ≤ x + d
  | 0, x => by simp [firstN]
  | d + 1, x => by
    rw [firstN]
    have := firstN_lo p d (x + 1)
    split <;> omega
theorem firstN_is (p : Int → Bool) : ∀ d x, firstN p d x < x + d → p (firstN p d x) = true
  | 0, x, h => by simp [firstN] at h
  | d + 1, x, h => by
    rw [firstN] at *
    split
    · assumption
    · rename_i hp
      rw [if_neg hp] at h
      exact firstN_is p d (x + 1) (by omega)
theorem firstN_before (p : Int → Bool) : ∀ d x y, x ≤ y → y < firstN p d x → p y = false
  | 0, x, y, h, h' => by simp [firstN] at h'; omega
  | d + 1, x, y, h, h' => by
    rw [firstN] at h'
    split at h'
    · omega
    · rename_i hp
      by_cases e : y = x
      · subst e; simpa using hp
      · exact firstN_before p d (x + 1) y (by omega) h'

theorem firstO_ev (g : Nat → Int → Option Bool) (p : Int → Bool) (hi : Int) : ∀ (d : Nat) (x : Int), x + d = hi + 1 → (∀ y, x ≤ y → y ≤ hi → Ev (fun k => g k y) (p y)) → ∃ K, ∀ k m, K ≤ k → K ≤ m → firstO m (g k) x hi = some (firstN p d x)
  | 0, x, h, hp => ⟨1, fun k m _ hm => by
    obtain ⟨m, rfl⟩ : ∃ n, m = n + 1 := ⟨m - 1, by omega⟩
    rw [firstO, if_neg (by omega)]; rfl⟩
  | d + 1, x, h, hp => by
    obtain ⟨K, hK⟩ := firstO_ev g p hi d (x + 1) (by omega) (fun y h1 h2 => hp y (by omega) h2)
    obtain ⟨K', hK'⟩ := hp x (by omega) (by omega)
    refine ⟨K + K' + 1, fun k m hk hm => ?_⟩
    obtain ⟨m, rfl⟩ : ∃ n, m = n + 1 := ⟨m - 1, by omega⟩
    have e := hK' k (by omega)
    simp only at e
    rw [firstO, if_pos (by omega), e, firstN]
    simp only [Option.bind_some]
    rw [hK k m (by omega) (by omega)]
    split <;> rfl

def leastS (n b o : Int) : Int × Int :=
  if n > 30 ∨ o > 100000 then (0, 2) else if n < 1 ∨ b < 1 ∨ b > n ∨ o < 1 then (0, 1) else (firstN (fun c => (enoughS n b c 1 o).1) n.toNat 0, 0)

theorem all_enough (n b o : Int) (h : ¬ (n > 30 ∨ o > 100000)) (h' : ¬ (n < 1 ∨ b < 1 ∨ b > n ∨ o < 1)) : (enoughS n b n 1 o).1 = true := by
  have e : missS n b n = (0, 1, 0) := by
    unfold missS
    rw [if_neg (by omega), if_neg (by omega), if_pos (by omega)]
  unfold enoughS
  rw [e, if_pos rfl, if_neg (by omega), if_neg (by omega)]
  simp

theorem leastV (n b o : Int) (hn : -9223372036854775808 ≤ n) (hb : -9223372036854775808 ≤ b) : Ev (fun k => verdict_Least.f k n b o) (leastS n b o) := by
  unfold verdict_Least.f leastS
  by_cases h1 : n > 30 ∨ o > 100000
  · simp only [if_pos h1]; exact Ev.now _
  simp only [if_neg h1]
  by_cases h2 : n < 1 ∨ b < 1 ∨ b > n ∨ o < 1
  · simp only [if_pos h2]; exact Ev.now _
  simp only [if_neg h2]
  obtain ⟨K, hK⟩ := firstO_ev (fun k x => (verdict_Enough.f k n b x 1 o).map Prod.fst) (fun c => (enoughS n b c 1 o).1) n (n.toNat + 1) 0 (by omega) (fun y _ _ => by
    obtain ⟨K, hK⟩ := enoughV n b y 1 o hn hb
    exact ⟨K, fun k hk => by simp only [hK k hk, Option.map_some]⟩)
  refine ⟨K, fun k hk => ?_⟩
  simp only [hK k k hk hk, Option.map_some]
  rw [firstN_more _ _ _ (by
    have := all_enough n b o h1 h2
    rw [show (0 : Int) + (n.toNat : Int) = n by omega]; exact this)]

theorem leastR_loop (n b o : Int) (hn : 0 ≤ n) (hn' : n ≤ 30) (hb : -9223372036854775808 ≤ b) : ∀ (d : Nat) (x : Int), x + d = n → 0 ≤ x → Ev (fun k => quietusref46_Least.l0 k n b o x) (firstN (fun c => (enoughS n b c 1 o).1) d x, 0)
  | 0, x, h, hx => ev_step1 fun k => by
    simp only [quietusref46_Least.l0]
    rw [if_neg (by omega), show x = n by omega]; rfl
  | d + 1, x, h, hx => by
    refine Ev.step (f := fun k => (quietusref46_Enough.f k n b x 1 o).bind fun t => if t.1 = true then some (x, 0) else quietusref46_Least.l0 k n b o (x + 1)) (fun k => ?_) (Ev.bind (enoughR n b x 1 o (by omega) hb) ?_)
    · simp only [quietusref46_Least.l0]
      rw [if_pos (by omega), w64 _ (by omega) (by omega)]
    · have := leastR_loop n b o hn hn' hb d (x + 1) (by omega) (by omega)
      rw [firstN]
      by_cases e : (enoughS n b x 1 o).1 = true
      · simp only [if_pos e]; exact Ev.now _
      · simp only [if_neg e]; exact this

theorem leastR (n b o : Int) (hn : -9223372036854775808 ≤ n) (hb : -9223372036854775808 ≤ b) : Ev (fun k => quietusref46_Least.f k n b o) (leastS n b o) := by
  unfold leastS
  by_cases h1 : n > 30
  · rw [if_pos (.inl h1)]
    exact ev_step1 fun k => by simp [quietusref46_Least.f, quietusref46_Least.j0, h1]
  by_cases h2 : o > 100000
  · rw [if_pos (.inr h2)]
    exact ev_step1 fun k => by simp [quietusref46_Least.f, quietusref46_Least.j0, h1, h2]
  rw [if_neg (by omega)]
  by_cases h3 : n < 1
  · rw [if_pos (.inl h3)]
    exact Ev.step (f := fun k => quietusref46_Least.j1 k n b o true) (fun k => by simp [quietusref46_Least.f, quietusref46_Least.j0, h1, h2, h3]) (ev_step1 fun k => by simp [quietusref46_Least.j1])
  by_cases h4 : b < 1
  · rw [if_pos (.inr (.inl h4))]
    exact Ev.step (f := fun k => quietusref46_Least.j1 k n b o true) (fun k => by simp [quietusref46_Least.f, quietusref46_Least.j0, h1, h2, h3, h4]) (ev_step1 fun k => by simp [quietusref46_Least.j1])
  by_cases h5 : b > n
  · rw [if_pos (.inr (.inr (.inl h5)))]
    exact Ev.step (f := fun k => quietusref46_Least.j1 k n b o true) (fun k => by simp [quietusref46_Least.f, quietusref46_Least.j0, h1, h2, h3, h4, h5]) (ev_step1 fun k => by simp [quietusref46_Least.j1])
  by_cases h6 : o < 1
  · rw [if_pos (.inr (.inr (.inr h6)))]
    exact Ev.step (f := fun k => quietusref46_Least.j1 k n b o true) (fun k => by simp [quietusref46_Least.f, quietusref46_Least.j0, h1, h2, h3, h4, h5, h6]) (ev_step1 fun k => by simp [quietusref46_Least.j1])
  rw [if_neg (by omega)]
  refine Ev.step (f := fun k => quietusref46_Least.j1 k n b o false) (fun k => by simp [quietusref46_Least.f, quietusref46_Least.j0, h1, h2, h3, h4, h5, h6]) (Ev.step (fun k => ?_) (leastR_loop n b o (by omega) (by omega) hb n.toNat 0 (by omega) (by omega)))
  simp [quietusref46_Least.j1]

def roundsS (n b c o : Int) : Int × Int :=
  if (enoughS n b c 1 o).2 = 0 then (let r := firstN (fun r => (enoughS n b c r o).1) 4 1; if r > 4 then (0, 8) else (r, 0)) else (0, (enoughS n b c 1 o).2)

theorem roundsV (n b c o : Int) (hn : -9223372036854775808 ≤ n) (hb : -9223372036854775808 ≤ b) : Ev (fun k => verdict_Rounds.f k n b c o) (roundsS n b c o) := by
  unfold verdict_Rounds.f roundsS
  refine Ev.bind (enoughV n b c 1 o hn hb) ?_
  by_cases h1 : (enoughS n b c 1 o).2 = 0
  · simp only [if_pos h1]
    obtain ⟨K, hK⟩ := firstO_ev (fun k x => (verdict_Enough.f k n b c x o).map Prod.fst) (fun r => (enoughS n b c r o).1) 4 4 1 (by omega) (fun y _ _ => by
      obtain ⟨K, hK⟩ := enoughV n b c y o hn hb
      exact ⟨K, fun k hk => by simp only [hK k hk, Option.map_some]⟩)
    exact ⟨K, fun k hk => by simp only [hK k k hk hk, Option.map_some]⟩
  · simp only [if_neg h1]; exact Ev.now _

theorem roundsR_loop (n b c o : Int) (hn : -9223372036854775808 ≤ n) (hb : -9223372036854775808 ≤ b) : ∀ (d : Nat) (x : Int), x + d = 5 → 0 ≤ x →
    Ev (fun k => quietusref46_Rounds.l0 k n b c o x) (let r := firstN (fun r => (enoughS n b c r o).1) d x; if r > 4 then (0, 8) else (r, 0))
  | 0, x, h, hx => ev_step1 fun k => by
    simp only [quietusref46_Rounds.l0]
    rw [if_neg (by omega)]
    have h4 : x > 4 := by omega
    simp [firstN, h4]
  | d + 1, x, h, hx => by
    refine Ev.step (f := fun k => (quietusref46_Enough.f k n b c x o).bind fun t => if t.1 = true then some (x, 0) else quietusref46_Rounds.l0 k n b c o (x + 1)) (fun k => ?_) (Ev.bind (enoughR n b c x o hn hb) ?_)
    · simp only [quietusref46_Rounds.l0]
      rw [if_pos (by omega), w64 _ (by omega) (by omega)]
    · have := roundsR_loop n b c o hn hb d (x + 1) (by omega) (by omega)
      rw [firstN]
      by_cases e : (enoughS n b c x o).1 = true
      · simp only [if_pos e]; rw [if_neg (by omega)]; exact Ev.now _
      · simp only [if_neg e]; exact this

theorem roundsR (n b c o : Int) (hn : -9223372036854775808 ≤ n) (hb : -9223372036854775808 ≤ b) : Ev (fun k => quietusref46_Rounds.f k n b c o) (roundsS n b c o) := by
  unfold quietusref46_Rounds.f roundsS
  refine Ev.bind (enoughR n b c 1 o hn hb) ?_
  by_cases h1 : (enoughS n b c 1 o).2 = 0
  · simp only [if_pos h1]
    exact roundsR_loop n b c o hn hb 4 1 (by omega) (by omega)
  · simp only [if_neg h1]; exact Ev.now _
/-- Miss, as numbers: the two numbers of sets without a common factor -/
theorem miss_parts (n b k : Nat) (h1 : 1 ≤ n) (h2 : n ≤ 60) (hb : b ≤ n) (hk : k ≤ n) :
    ∃ num den g : Nat, missS n b k = ((num : Int), (den : Int), 0) ∧ 0 < g ∧ bin (n - b) k = num * g ∧ bin n k = den * g ∧ 1 ≤ den := by
  unfold missS
  rw [if_neg (by omega), if_neg (by omega)]
  by_cases h : k ≤ n - b
  · rw [if_neg (by omega)]
    have es : ((n : Int) - (b : Int)).toNat = n - b := by omega
    have hg := gcd_bin n b k h
    refine ⟨bin (n - b) k / Nat.gcd (bin (n - b) k) (bin n k), bin n k / Nat.gcd (bin (n - b) k) (bin n k), Nat.gcd (bin (n - b) k) (bin n k), ?_, hg, ?_, ?_, ?_⟩
    · simp only [es, Int.toNat_natCast, Int.natCast_ediv]
    · exact (Nat.div_mul_cancel (Nat.gcd_dvd_left _ _)).symm
    · exact (Nat.div_mul_cancel (Nat.gcd_dvd_right _ _)).symm
    · exact Nat.div_pos (Nat.le_of_dvd (bin_pos n k hk) (Nat.gcd_dvd_right _ _)) hg
  · rw [if_pos (by omega)]
    exact ⟨0, 1, bin n k, rfl, bin_pos n k hk, by rw [bin_out _ _ (by omega)]; simp, by simp, by omega⟩
end Go.Proofs.Ytkmfaiehhfjjmaa.A
