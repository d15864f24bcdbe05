/- What Enough of chapter 46 comes to, in the program (numbers of two words) and in the reference (digits to the base of a million). -/
import Derived.Test.YtkmfaiehhfjjmaaA2
namespace Go.Proofs.Ytkmfaiehhfjjmaa.A
open Go.RowKit Go.Proofs.Ytkmfaiehhfjjmaa.V Go.Proofs.Ytkmfaiehhfjjmaa.Math Go.Proofs.YtkmfaiehhfjjmaaW.PrintWords Go.Proofs.YtkmfaiehhfjjmaaW.PrintLast

def B64 : Int := 18446744073709551616
theorem wide_times (v n : Int) (hv : 0 ≤ v) (hn : 0 ≤ n) (hn' : n < 9223372036854775808) (h : v * n < B64 * B64) (hv' : v < B64 * B64) :
    verdict_wide_times.f (v / B64) (v % B64) n = some (v * n / B64, v * n % B64) := by
  have hB : B64 = 18446744073709551616 := rfl
  have hm0 : 0 ≤ v % B64 := Int.emod_nonneg _ (by omega)
  have hm1 : v % B64 < B64 := Int.emod_lt_of_pos _ (by omega)
  have hd0 : 0 ≤ v / B64 := Int.ediv_nonneg hv (by omega)
  have hd1 : v / B64 < B64 := Int.ediv_lt_of_lt_mul (by omega) hv'
  have e : v = v % B64 + (v / B64) * B64 := by rw [Int.mul_comm]; exact (Int.emod_add_mul_ediv v B64).symm
  have e2 : v * n = (v % B64) * n + (v / B64 * n) * B64 := by
    conv => lhs; rw [e]
    rw [Int.add_mul, Int.mul_right_comm]
  have e3 : v * n / B64 = (v % B64) * n / B64 + v / B64 * n := by rw [e2, Int.add_mul_ediv_right _ _ (by omega)]
  have e4 : v * n % B64 = (v % B64) * n % B64 := by rw [e2, Int.add_mul_emod_self_right]
  have h5 : v * n / B64 < B64 := Int.ediv_lt_of_lt_mul (by omega) h
  have h6 : 0 ≤ (v % B64) * n / B64 := Int.ediv_nonneg (Int.mul_nonneg hm0 hn) (by omega)
  have h7 : 0 ≤ v / B64 * n := Int.mul_nonneg hd0 hn
  unfold verdict_wide_times.f
  rw [wu64 n hn (by omega), mul64 _ _ hm0 (by omega) hn (by omega)]
  simp only [Option.bind_some]
  rw [← hB, e3, e4]
  rw [wu64 (v / B64 * n) h7 (by omega), wu64 _ (by omega) (by omega)]

theorem wide_most (v u : Int) : verdict_wide_most.f (v / B64) (v % B64) (u / B64) (u % B64) = some (decide (v ≤ u)) := by
  unfold verdict_wide_most.f
  have hB : B64 = 18446744073709551616 := rfl
  congr 1
  rw [decide_eq_decide]
  rw [hB]
  omega

theorem pow_bound (o x : Int) (i : Nat) (ho0 : 0 ≤ o) (ho : o ≤ 100000) (hx0 : 0 ≤ x) (hx : x ≤ 155117520) (hi : i ≤ 4) : 0 ≤ o * x ^ i ∧ o * x ^ i < B64 * B64 := by
  refine ⟨Int.mul_nonneg ho0 (Int.pow_nonneg hx0), ?_⟩
  obtain ⟨a, rfl⟩ := Int.eq_ofNat_of_zero_le ho0
  obtain ⟨b, rfl⟩ := Int.eq_ofNat_of_zero_le hx0
  have h1 : b ^ i ≤ 155117520 ^ i := Nat.pow_le_pow_left (by omega) i
  have h2 : 155117520 ^ i ≤ 155117520 ^ 4 := Nat.pow_le_pow_right (by omega) hi
  have h3 : a * b ^ i ≤ 100000 * 155117520 ^ 4 := Nat.mul_le_mul (by omega) (Nat.le_trans h1 h2)
  have h4 : 100000 * 155117520 ^ 4 < 18446744073709551616 * 18446744073709551616 := by decide
  have h5 : ((a : Int) * (b : Int) ^ i) = ((a * b ^ i : Nat) : Int) := by rw [Int.natCast_mul, Int.natCast_pow]
  have hB : B64 = 18446744073709551616 := rfl
  rw [h5, hB]
  omega

theorem enough_loop (o num den : Int) (r : Nat) (ho0 : 0 ≤ o) (ho : o ≤ 100000) (hn0 : 0 ≤ num) (hn : num ≤ 155117520) (hd0 : 0 ≤ den) (hd : den ≤ 155117520) (hr : r ≤ 4) :
    ∀ d i, i + d = r → Ev (fun k => verdict_Enough.l0 k num den r i (o * num ^ i / B64) (o * num ^ i % B64) (1 * den ^ i / B64) (1 * den ^ i % B64)) (decide (o * num ^ r ≤ den ^ r), 0)
  | 0, i, hi => by
    obtain rfl : i = r := by omega
    refine ev_step1 fun k => ?_
    simp only [verdict_Enough.l0]
    rw [if_neg (by omega), wide_most, Int.one_mul]
    rfl
  | d + 1, i, hi => by
    have b1 := pow_bound o num i ho0 ho hn0 hn (by omega)
    have b2 := pow_bound 1 den i (by omega) (by omega) hd0 hd (by omega)
    have b3 := pow_bound o num (i + 1) ho0 ho hn0 hn (by omega)
    have b4 := pow_bound 1 den (i + 1) (by omega) (by omega) hd0 hd (by omega)
    rw [Int.pow_succ, ← Int.mul_assoc] at b3 b4
    refine Ev.step (fun k => ?_) (enough_loop o num den r ho0 ho hn0 hn hd0 hd hr d (i + 1) (by omega))
    simp only [verdict_Enough.l0]
    rw [if_pos (by omega), wide_times _ _ b1.1 hn0 (by omega) b3.2 b1.2]
    simp only [Option.bind_some]
    rw [wide_times _ _ b2.1 hd0 (by omega) b4.2 b2.2]
    simp only [Option.bind_some]
    rw [w64 _ (by omega) (by omega), Int.pow_succ, ← Int.mul_assoc, Int.pow_succ, ← Int.mul_assoc]
    rfl

/-! ### the reference's digits -/
def dig (l : List Int) (j : Nat) : Int := l.getD j 0
def M6 : Int := 1000000
def val (l : List Int) : Nat → Int
  | 0 => 0
  | m + 1 => val l m + dig l m * M6 ^ m
def Digits (l : List Int) : Prop := ∀ j, 0 ≤ dig l j ∧ dig l j < M6
theorem dig_app (l : List Int) (x : Int) (j : Nat) (h : j < l.length) : dig (l ++ [x]) j = dig l j := by
  unfold dig; simp [List.getD_eq_getElem?_getD, List.getElem?_append_left h]
theorem dig_last (l : List Int) (x : Int) : dig (l ++ [x]) l.length = x := by unfold dig; simp [List.getD_eq_getElem?_getD]
theorem dig_out (l : List Int) (j : Nat) (h : l.length ≤ j) : dig l j = 0 := by
  unfold dig; simp [List.getD_eq_getElem?_getD, List.getElem?_eq_none h]
theorem val_app (l : List Int) (x : Int) : ∀ m, m ≤ l.length → val (l ++ [x]) m = val l m
  | 0, _ => rfl
  | m + 1, h => by rw [val, val, val_app l x m (by omega), dig_app l x m (by omega)]
theorem val_snoc (l : List Int) (x : Int) : val (l ++ [x]) (l ++ [x]).length = val l l.length + x * M6 ^ l.length := by
  rw [List.length_append, List.length_singleton, val, val_app l x _ (Nat.le_refl _), dig_last]
theorem val_out (l : List Int) : ∀ m, l.length ≤ m → val l m = val l l.length
  | 0, h => by rw [show l.length = 0 by omega]
  | m + 1, h => by
    by_cases e : l.length = m + 1
    · rw [e]
    · rw [val, dig_out l m (by omega), val_out l m (by omega)]; simp
theorem Digits.snoc {l : List Int} (h : Digits l) {x : Int} (h0 : 0 ≤ x) (h1 : x < M6) : Digits (l ++ [x]) := fun j => by
  rcases Nat.lt_trichotomy j l.length with g | g | g
  · rw [dig_app l x j g]; exact h j
  · subst g; rw [dig_last]; exact ⟨h0, h1⟩
  · rw [dig_out _ j (by simp; omega)]; exact ⟨by decide, by decide⟩
theorem pow_pos' (m : Nat) : 0 < M6 ^ m := Int.pow_pos (by decide)
theorem val_bound {l : List Int} (h : Digits l) : ∀ m, 0 ≤ val l m ∧ val l m < M6 ^ m
  | 0 => by simp [val]
  | m + 1 => by
    have ih := val_bound h m
    have hd := h m
    have hp := pow_pos' m
    rw [val, Int.pow_succ]
    have h1 : 0 ≤ dig l m * M6 ^ m := Int.mul_nonneg hd.1 (by omega)
    have h2 : dig l m * M6 ^ m ≤ (M6 - 1) * M6 ^ m := Int.mul_le_mul_of_nonneg_right (by omega) (by omega)
    rw [Int.sub_mul, Int.mul_comm M6] at h2
    omega

theorem split6 (x P : Int) : Int.tmod x 1000000 * P + Int.tdiv x 1000000 * (P * M6) = x * P := by
  have h := Int.tmod_add_mul_tdiv x 1000000
  have : Int.tdiv x 1000000 * (P * M6) = (1000000 * Int.tdiv x 1000000) * P := by
    rw [show M6 = 1000000 from rfl]
    rw [Int.mul_comm P, ← Int.mul_assoc, Int.mul_comm 1000000]
  rw [this, ← Int.add_mul, h]
theorem t6 (x : Int) (h : 0 ≤ x) : 0 ≤ Int.tmod x 1000000 ∧ Int.tmod x 1000000 < M6 ∧ Int.tdiv x 1000000 = x / 1000000 := by
  rw [Int.tmod_eq_emod_of_nonneg h, Int.tdiv_eq_ediv_of_nonneg h]
  have : M6 = 1000000 := rfl
  omega

/-- the last carry -/
theorem carry_loop (T : Int) : ∀ (q : Nat) (out : List Int) (c : Int), Digits out → out.length + q ≤ 1000 → 0 ≤ c → c < 1000000 ^ q → c < 9000000000000000 → q ≤ 4 → val out out.length + c * M6 ^ out.length = T →
    ∃ l, Ev (fun k => quietusref46_times.l1 k out c) l ∧ Digits l ∧ val l l.length = T ∧ l.length ≤ out.length + q
  | 0, out, c, hD, hl, h0, h1, hc, hq, hT => by
    have e : c = 0 := by simp at h1; omega
    subst e
    refine ⟨out, ev_step1 fun k => ?_, hD, by simpa using hT, by omega⟩
    simp only [quietusref46_times.l1]
    rw [if_neg (by omega)]
  | q + 1, out, c, hD, hl, h0, h1, hc, hq, hT => by
    by_cases e : c = 0
    · subst e
      refine ⟨out, ev_step1 fun k => ?_, hD, by simpa using hT, by omega⟩
      simp only [quietusref46_times.l1]
      rw [if_neg (by omega)]
    · have ht := t6 c h0
      obtain ⟨l, hl1, hl2, hl3, hl4⟩ := carry_loop T q (out ++ [Int.tmod c 1000000]) (Int.tdiv c 1000000) (hD.snoc ht.1 ht.2.1) (by simp; omega) (by omega)
        (by rw [ht.2.2]; rw [Int.pow_succ] at h1; exact Int.ediv_lt_of_lt_mul (by omega) h1) (by omega) (by omega) (by
          rw [val_snoc, List.length_append, List.length_singleton, Int.pow_succ, Int.add_assoc, split6]; exact hT)
      refine ⟨l, Ev.step (fun k => ?_) hl1, hl2, hl3, by rw [List.length_append, List.length_singleton] at hl4; omega⟩
      simp only [quietusref46_times.l1]
      rw [if_pos (by omega), if_pos (by omega), w64 _ (by omega) (by omega)]

theorem mult_loop (l : List Int) (y : Int) (hy0 : 0 ≤ y) (hy : y ≤ 155117520) (hD : Digits l) (hl : l.length ≤ 900) : ∀ (d i : Nat) (out : List Int) (c : Int), i + d = l.length → out.length = i → Digits out → 0 ≤ c → c ≤ y → val out i + c * M6 ^ i = val l i * y →
    ∃ r, Ev (fun k => quietusref46_times.l0 k l y out c i) r ∧ Digits r ∧ val r r.length = val l l.length * y ∧ r.length ≤ l.length + 2
  | 0, i, out, c, hi, ho, hO, h0, h1, hT => by
    obtain ⟨r, r1, r2, r3, r4⟩ := carry_loop (val l l.length * y) 2 out c hO (by omega) h0 (by omega) (by omega) (by omega) (by
      rw [ho]; obtain rfl : i = l.length := by omega
      exact hT)
    refine ⟨r, Ev.step (fun k => ?_) r1, r2, r3, by omega⟩
    simp only [quietusref46_times.l0]
    rw [if_neg (by omega)]
  | d + 1, i, out, c, hi, ho, hO, h0, h1, hT => by
    have hd := hD i
    have hm : M6 = 1000000 := rfl
    have p1 : 0 ≤ dig l i * y := Int.mul_nonneg hd.1 hy0
    have p2 : dig l i * y ≤ 999999 * y := Int.mul_le_mul_of_nonneg_right (by omega) hy0
    have hx := t6 (dig l i * y + c) (by omega)
    obtain ⟨r, r1, r2, r3, r4⟩ := mult_loop l y hy0 hy hD hl d (i + 1) (out ++ [Int.tmod (dig l i * y + c) 1000000]) (Int.tdiv (dig l i * y + c) 1000000) (by omega) (by simp; omega) (hO.snoc hx.1 hx.2.1)
      (by rw [hx.2.2]; omega) (by rw [hx.2.2]; omega) (by
        have e := val_snoc out (Int.tmod (dig l i * y + c) 1000000)
        rw [List.length_append, List.length_singleton, ho] at e
        rw [e, Int.pow_succ, Int.add_assoc, split6, Int.add_mul, val, Int.add_mul, ← hT]
        rw [Int.mul_right_comm]
        omega)
    refine ⟨r, Ev.step (fun k => ?_) r1, r2, r3, r4⟩
    simp only [quietusref46_times.l0]
    have e : rd l (i : Int) = dig l i := by simp [rd, dig]
    rw [if_pos (by omega), if_pos (by omega), if_pos (by omega), e, w64 (dig l i * y) (by omega) (by omega), w64 _ (by omega) (by omega), w64 _ (by rw [hx.2.2]; omega) (by rw [hx.2.2]; omega), w64 ((i : Int) + 1) (by omega) (by omega)]
    rfl

theorem times_ev (l : List Int) (y : Int) (hy0 : 0 ≤ y) (hy : y ≤ 155117520) (hD : Digits l) (hl : l.length ≤ 900) :
    ∃ r, Ev (fun k => quietusref46_times.f k l y) r ∧ Digits r ∧ val r r.length = val l l.length * y ∧ r.length ≤ l.length + 2 :=
  mult_loop l y hy0 hy hD hl l.length 0 [] 0 (by omega) rfl (fun j => by simp [dig, M6]) (by omega) hy0 (by simp [val])

theorem digit_eq (l : List Int) (j : Nat) : quietusref46_digit.f l j = some (dig l j) := by
  unfold quietusref46_digit.f
  by_cases h : j < l.length
  · rw [if_pos (by omega), if_pos (by omega)]; simp [rd, dig]
  · rw [if_neg (by omega), dig_out l j (by omega)]

theorem most_loop (a b : List Int) (ha : Digits a) (hb : Digits b) : ∀ m : Nat, m ≤ 2000 → Ev (fun k => quietusref46_most.l0 k a b ((m : Int) - 1)) (decide (val a m ≤ val b m))
  | 0, _ => by
    refine ev_step1 fun k => ?_
    simp only [quietusref46_most.l0]
    rw [if_neg (by omega)]; simp [val]
  | m + 1, hm => by
    have e : (((m + 1 : Nat) : Int) - 1) = (m : Int) := by omega
    have hp := pow_pos' m
    have va := val_bound ha m
    have vb := val_bound hb m
    by_cases hd : dig a m = dig b m
    · refine Ev.step (f := fun k => quietusref46_most.l0 k a b ((m : Int) - 1)) (fun k => ?_) ?_
      · simp only [quietusref46_most.l0]
        rw [e, if_pos (by omega), digit_eq, digit_eq]
        simp only [Option.bind_some]
        rw [if_pos hd, w64 _ (by omega) (by omega)]
      · have := most_loop a b ha hb m (by omega)
        rw [val, val, hd]
        have e2 : decide (val a m + dig b m * M6 ^ m ≤ val b m + dig b m * M6 ^ m) = decide (val a m ≤ val b m) := by rw [decide_eq_decide]; omega
        rw [e2]; exact this
    · refine ev_step1 fun k => ?_
      simp only [quietusref46_most.l0]
      rw [e, if_pos (by omega), digit_eq, digit_eq]
      simp only [Option.bind_some]
      rw [if_neg hd]
      congr 1
      rw [decide_eq_decide, val, val]
      constructor
      · intro h
        have := Int.mul_le_mul_of_nonneg_right (show dig a m + 1 ≤ dig b m by omega) (show 0 ≤ M6 ^ m by omega)
        rw [Int.add_mul] at this
        omega
      · intro h
        rcases Int.lt_or_le (dig a m) (dig b m) with g | g
        · exact g
        · have := Int.mul_le_mul_of_nonneg_right (show dig b m + 1 ≤ dig a m by omega) (show 0 ≤ M6 ^ m by omega)
          rw [Int.add_mul] at this
          omega

theorem most_ev (a b : List Int) (ha : Digits a) (hb : Digits b) (hla : a.length ≤ 1000) (hlb : b.length ≤ 1000) :
    Ev (fun k => quietusref46_most.f k a b) (decide (val a a.length ≤ val b b.length)) := by
  unfold quietusref46_most.f
  have e : mx (a.length : Int) (b.length : Int) = ((max a.length b.length : Nat) : Int) := by unfold mx; split <;> omega
  rw [e, w64 _ (by omega) (by omega)]
  have := most_loop a b ha hb (max a.length b.length) (by omega)
  rw [val_out a _ (by omega), val_out b _ (by omega)] at this
  exact this

theorem ref_loop (o num den : Int) (r : Nat) (E : Int) (hn0 : 0 ≤ num) (hn : num ≤ 155117520) (hd0 : 0 ≤ den) (hd : den ≤ 155117520) (hr : r ≤ 4) :
    ∀ (d i : Nat) (a b : List Int), i + d = r → Digits a → Digits b → a.length ≤ 1 + 2 * i → b.length ≤ 1 + 2 * i → val a a.length = o * num ^ i → val b b.length = den ^ i →
      Ev (fun k => quietusref46_Enough.l0 k r a b i num den E) (decide (o * num ^ r ≤ den ^ r), 0)
  | 0, i, a, b, hi, ha, hb, hla, hlb, va, vb => by
    obtain rfl : i = r := by omega
    refine Ev.step (f := fun k => (quietusref46_most.f k a b).bind fun t => some (t, 0)) (fun k => ?_) (Ev.bind (most_ev a b ha hb (by omega) (by omega)) ?_)
    · simp only [quietusref46_Enough.l0]
      rw [if_neg (by omega)]
    · rw [va, vb]; exact Ev.now _
  | d + 1, i, a, b, hi, ha, hb, hla, hlb, va, vb => by
    obtain ⟨a', a1, a2, a3, a4⟩ := times_ev a num hn0 hn ha (by omega)
    obtain ⟨b', b1, b2, b3, b4⟩ := times_ev b den hd0 hd hb (by omega)
    have := ref_loop o num den r E hn0 hn hd0 hd hr d (i + 1) a' b' (by omega) a2 b2 (by omega) (by omega) (by rw [a3, va, Int.pow_succ, Int.mul_assoc]) (by rw [b3, vb, Int.pow_succ])
    refine Ev.step (f := fun k => (quietusref46_times.f k a num).bind fun t => (quietusref46_times.f k b den).bind fun u => quietusref46_Enough.l0 k r t u ((i + 1 : Nat) : Int) num den E) (fun k => ?_) (Ev.bind a1 (Ev.bind b1 this))
    simp only [quietusref46_Enough.l0]
    rw [if_pos (by omega), w64 _ (by omega) (by omega)]
    rfl

/-! ### Enough -/
def enoughS (n b c r o : Int) : Bool × Int :=
  if (missS n b c).2.2 = 0 then (if r < 1 ∨ o < 1 then (false, 1) else if n > 30 ∨ r > 4 ∨ o > 100000 then (false, 2) else (decide (o * (missS n b c).1 ^ r.toNat ≤ (missS n b c).2.1 ^ r.toNat), 0))
  else (false, (missS n b c).2.2)

theorem missS_bound (n b c : Int) (hn : n ≤ 30) (h : (missS n b c).2.2 = 0) : 0 ≤ (missS n b c).1 ∧ (missS n b c).1 ≤ 155117520 ∧ 0 ≤ (missS n b c).2.1 ∧ (missS n b c).2.1 ≤ 155117520 := by
  unfold missS at *
  rw [if_neg (by omega)] at *
  by_cases h2 : n < 1 ∨ b < 0 ∨ b > n ∨ c < 0 ∨ c > n
  · rw [if_pos h2] at h; simp at h
  rw [if_neg h2] at *
  by_cases h3 : c > n - b
  · rw [if_pos h3]; simp
  rw [if_neg h3]
  have h1 := bin_le30 (n - b).toNat c.toNat (by omega)
  have h2 := bin_le30 n.toNat c.toNat (by omega)
  simp only
  have h4 := Nat.div_le_self (bin (n - b).toNat c.toNat) (Nat.gcd (bin (n - b).toNat c.toNat) (bin n.toNat c.toNat))
  have h5 := Nat.div_le_self (bin n.toNat c.toNat) (Nat.gcd (bin (n - b).toNat c.toNat) (bin n.toNat c.toNat))
  rw [← Int.natCast_ediv, ← Int.natCast_ediv]
  generalize bin (n - b).toNat c.toNat / Nat.gcd (bin (n - b).toNat c.toNat) (bin n.toNat c.toNat) = x at *
  generalize bin n.toNat c.toNat / Nat.gcd (bin (n - b).toNat c.toNat) (bin n.toNat c.toNat) = y at *
  omega

theorem enoughV (n b c r o : Int) (hn : -9223372036854775808 ≤ n) (hb : -9223372036854775808 ≤ b) : Ev (fun k => verdict_Enough.f k n b c r o) (enoughS n b c r o) := by
  unfold verdict_Enough.f
  refine Ev.bind (missV n b c hn hb) ?_
  unfold enoughS
  have hm := missS_bound n b c
  generalize missS n b c = m at *
  obtain ⟨x, y, e⟩ := m
  simp only at *
  by_cases h0 : e = 0
  · simp only [h0, if_true]
    by_cases h1 : r < 1
    · simp only [if_pos h1]
      rw [if_pos (.inl h1)]
      exact ev_step1 fun k => by simp [verdict_Enough.j0]
    simp only [if_neg h1]
    by_cases h2 : o < 1
    · rw [if_pos (.inr h2)]
      exact ev_step1 fun k => by simp [verdict_Enough.j0, h2]
    rw [if_neg (by omega)]
    by_cases h3 : n > 30
    · rw [if_pos (.inl h3)]
      exact ev_step1 fun k => by simp [verdict_Enough.j0, h2, h3]
    by_cases h4 : r > 4
    · rw [if_pos (.inr (.inl h4))]
      exact ev_step1 fun k => by simp [verdict_Enough.j0, h2, h3, h4]
    by_cases h5 : o > 100000
    · rw [if_pos (.inr (.inr h5))]
      exact ev_step1 fun k => by simp [verdict_Enough.j0, h2, h3, h4, h5]
    rw [if_neg (by omega)]
    have hm := hm (by omega) h0
    obtain ⟨r, rfl⟩ := Int.eq_ofNat_of_zero_le (show 0 ≤ r by omega)
    have := enough_loop o x y r (by omega) (by omega) hm.1 hm.2.1 hm.2.2.1 hm.2.2.2 (by omega) r 0 (by omega)
    refine Ev.step (fun k => ?_) this
    have hB : B64 = 18446744073709551616 := rfl
    have e1 : o * x ^ 0 / B64 = 0 := by rw [Int.pow_zero, Int.mul_one, hB]; omega
    have e2 : o * x ^ 0 % B64 = o := by rw [Int.pow_zero, Int.mul_one, hB]; omega
    rw [e1, e2]
    simp [verdict_Enough.j0, h2, h3, h4, h5, wu64 o (by omega) (by omega), B64]
  · simp only [h0, if_false]
    exact Ev.now _

theorem enoughR (n b c r o : Int) (hn : -9223372036854775808 ≤ n) (hb : -9223372036854775808 ≤ b) : Ev (fun k => quietusref46_Enough.f k n b c r o) (enoughS n b c r o) := by
  unfold quietusref46_Enough.f
  refine Ev.bind (missR n b c hn hb) ?_
  unfold enoughS
  have hm := missS_bound n b c
  generalize missS n b c = m at *
  obtain ⟨x, y, e⟩ := m
  simp only at *
  by_cases h0 : e = 0
  · simp only [h0, if_true]
    by_cases h1 : r < 1
    · simp only [if_pos h1]
      rw [if_pos (.inl h1)]
      exact ev_step1 fun k => by simp [quietusref46_Enough.j0]
    simp only [if_neg h1]
    by_cases h2 : o < 1
    · rw [if_pos (.inr h2)]
      exact ev_step1 fun k => by simp [quietusref46_Enough.j0, h2]
    rw [if_neg (by omega)]
    by_cases h3 : n > 30
    · rw [if_pos (.inl h3)]
      exact Ev.step (fun k => by simp [quietusref46_Enough.j0, h2, h3]) (ev_step1 (g := fun k => quietusref46_Enough.j1 k r o true x y 0) fun k => by simp [quietusref46_Enough.j1])
    by_cases h4 : r > 4
    · rw [if_pos (.inr (.inl h4))]
      exact Ev.step (fun k => by simp [quietusref46_Enough.j0, h2, h3, h4]) (ev_step1 (g := fun k => quietusref46_Enough.j1 k r o true x y 0) fun k => by simp [quietusref46_Enough.j1])
    by_cases h5 : o > 100000
    · rw [if_pos (.inr (.inr h5))]
      exact Ev.step (fun k => by simp [quietusref46_Enough.j0, h2, h3, h4, h5]) (ev_step1 (g := fun k => quietusref46_Enough.j1 k r o true x y 0) fun k => by simp [quietusref46_Enough.j1])
    rw [if_neg (by omega)]
    have hm := hm (by omega) h0
    obtain ⟨r, rfl⟩ := Int.eq_ofNat_of_zero_le (show 0 ≤ r by omega)
    have one : ∀ z : Int, 0 ≤ z → z < M6 → Digits [z] := fun z z0 z1 j => by
      cases j with
      | zero => exact ⟨z0, z1⟩
      | succ j => rw [dig_out _ _ (by simp)]; exact ⟨by decide, by decide⟩
    have hM : M6 = 1000000 := rfl
    have := ref_loop o x y r 0 hm.1 hm.2.1 hm.2.2.1 hm.2.2.2 (by omega) r 0 [o] [1] (by omega) (one o (by omega) (by omega)) (one 1 (by omega) (by omega)) (by simp) (by simp) (by simp [val, dig]) (by simp [val, dig])
    refine Ev.step (f := fun k => quietusref46_Enough.j1 k r o false x y 0) (fun k => by simp [quietusref46_Enough.j0, h2, h3, h4, h5]) (Ev.step (fun k => ?_) this)
    simp [quietusref46_Enough.j1]
  · simp only [h0, if_false]
    exact Ev.now _
end Go.Proofs.Ytkmfaiehhfjjmaa.A
