/- Texts of this claim, laid together: M1. -/
import Derived.Test.YtlelhmephibfjaaB1
import Derived.Deep.DeepCutAuto

namespace Go.Proofs.Ytlelhmephibfjaa.T
set_option linter.unusedVariables false
set_option linter.unusedSimpArgs false
open Go.RowKit Go.Proofs.YtlelhmephibfjaaW.PrintWords Go.Proofs.YtlelhmephibfjaaW.PrintLast Go.Proofs.YtlelhmephibfjaaW.PrintMore

theorem ev_step1 {α : Type} {g : Nat → Option α} {r : α} (h : ∀ k, g (k + 1) = some r) : Ev g r := Ev.step (f := fun _ => some r) h (Ev.now r)
theorem w64 (n : Int) (h0 : -9223372036854775808 ≤ n) (h1 : n ≤ 9223372036854775807) : wrap64 n = n := by unfold wrap64; omega

def wi (n lo hi : Int) : Bool := decide (lo ≤ n ∧ n ≤ hi)
theorem wi_t (n lo hi : Int) : trace_within.f n lo hi = some (wi n lo hi) := by
  unfold trace_within.f wi
  by_cases h : n ≥ lo
  · rw [if_pos h]; congr 1; rw [decide_eq_decide]; omega
  · rw [if_neg h]; congr 1; symm; rw [decide_eq_false_iff_not]; omega
theorem wi_r (n lo hi : Int) : quietusref38_within.f n lo hi = some (wi n lo hi) := wi_t n lo hi


/-- strictly ascending -/
def asc : List Int → Bool
  | [] => true
  | [_] => true
  | x :: y :: r => decide (x < y) && asc (y :: r)
theorem asc_get : ∀ (l : List Int), asc l = true ↔ ∀ j (h : j + 1 < l.length), l[j]'(by omega) < l[j + 1]
  | [] => by simp [asc]
  | [x] => by simp [asc]
  | x :: y :: r => by
    rw [asc, Bool.and_eq_true, decide_eq_true_eq, asc_get (y :: r)]
    constructor
    · rintro ⟨h1, h2⟩ j hj
      cases j with
      | zero => exact h1
      | succ j => exact h2 j (by simpa using hj)
    · intro h
      exact ⟨h 0 (by simp), fun j hj => h (j + 1) (by simpa using hj)⟩

def formedS (a : S25) : Bool :=
  asc a.f3 && (wi a.f0 1 1099511627776 && wi a.f1 1 4 && wi a.f2 0 1048576 && wi a.f4 0 11 && wi a.f5 (-1) 63 && wi a.f6 0 1000000 && wi a.f7 a.f6 1000001) &&
    (if a.f1 = 3 then wi a.f8 0 11 && wi a.f9 0 499 else a.f8 == -1 && a.f9 == 0)


theorem rd_get (l : List Int) (j : Nat) (h : j < l.length) : rd l (j : Int) = l[j] := by simp [rd, List.getD_eq_getElem?_getD, List.getElem?_eq_getElem h]

def restS (a : S25) : Bool := (wi a.f0 1 1099511627776 && wi a.f1 1 4 && wi a.f2 0 1048576 && wi a.f4 0 11 && wi a.f5 (-1) 63 && wi a.f6 0 1000000 && wi a.f7 a.f6 1000001)
def kindS (a : S25) : Bool := (if a.f1 = 3 then wi a.f8 0 11 && wi a.f9 0 499 else a.f8 == -1 && a.f9 == 0)
theorem formedS_eq (a : S25) : formedS a = (asc a.f3 && restS a && kindS a) := rfl


def madeS (a o : S25) : Bool :=
  decide (a.f2 = o.f2) && (if a.f1 = 4 then o.f1 != 3 else if a.f1 = 3 then decide (o.f1 = 3 ∧ 0 ≤ a.f9 - o.f9 ∧ a.f9 - o.f9 ≤ 1) else o.f1 != 4)

theorem not_asc {l : List Int} {j : Nat} (h0 : 0 < j) (h : j < l.length) (hn : ¬ l[j - 1] < l[j]) : asc l = false := by
  rw [Bool.eq_false_iff]
  intro ha
  have := (asc_get l).1 ha (j - 1) (by omega)
  simp only [show j - 1 + 1 = j by omega] at this
  exact hn this
theorem asc_all {l : List Int} (h : ∀ q (hq : q + 1 < l.length), l[q]'(by omega) < l[q + 1]) : asc l = true := (asc_get l).2 h

set_option maxHeartbeats 4000000 in
set_option maxRecDepth 100000 in
theorem formed_calls (a : S25) (A : Option Addr) (c : Nat) (w : World) (hr : Kd.C (Kd.int .i64) w A a.f3.length a.f3) (hc : a.f3.length ≤ c) (hl : a.f3.length ≤ 1000000) :
    Calls Try.prog 62 #[.agg #[.int .i64 a.f0, .int .i64 a.f1, .int .i64 a.f2, .slice A a.f3.length c, .int .i64 a.f4, .int .i64 a.f5, .int .i64 a.f6, .int .i64 a.f7, .int .i64 a.f8, .int .i64 a.f9]] w fun e w' => e = .returned (.bool (formedS a)) ∧ Below w.heap.size w w' := by
  have hu25 := Try.underlying25
  have HR := Aside0.mk hr
  clear hr
  go_enter Try.func62, Try.ntmps62
  go_wp2
  have K1 := Aside0.mk (blk_new w (.cells #[.int .i64 a.f0, .int .i64 a.f1, .int .i64 a.f2, .slice A a.f3.length c, .int .i64 a.f4, .int .i64 a.f5, .int .i64 a.f6, .int .i64 a.f7, .int .i64 a.f8, .int .i64 a.f9] 25))
  have HB : Aside0 (Below w.heap.size w (w.alloc (.cells #[.int .i64 a.f0, .int .i64 a.f1, .int .i64 a.f2, .slice A a.f3.length c, .int .i64 a.f4, .int .i64 a.f5, .int .i64 a.f6, .int .i64 a.f7, .int .i64 a.f8, .int .i64 a.f9] 25))) := ⟨below_alloc (Below.refl _ _) _⟩
  replace HR := Aside0.mk (Kd.C_below HR.out HB.out)
  generalize w.alloc (.cells #[.int .i64 a.f0, .int .i64 a.f1, .int .i64 a.f2, .slice A a.f3.length c, .int .i64 a.f4, .int .i64 a.f5, .int .i64 a.f6, .int .i64 a.f7, .int .i64 a.f8, .int .i64 a.f9] 25) = w0 at *
  have k1 := blk_cell K1.out
  go_loop [10] (fun v => ∃ j : Nat, v = .int .i64 j ∧ j ≤ a.f3.length ∧ Aside0 (∀ q (hq : q + 1 < a.f3.length), q + 1 < j → a.f3[q]'(by omega) < a.f3[q + 1])) (fun v => a.f3.length - (intOf v).toNat)
  case atStart => exact ⟨0, rfl, by omega, ⟨fun q hq h => by omega⟩⟩
  case round =>
    obtain ⟨j, rfl, hj, HA⟩ := hrel
    by_cases hlt : j < a.f3.length
    · obtain ⟨ad, e1, x0⟩ := Kd.at_int HR.out (j : Int) (by omega) (by omega)
      cases e1
      rw [rd_get a.f3 j hlt, Int.toNat_natCast] at x0
      by_cases h0 : j = 0
      · have g0 : decide ((0 : Int) < (j : Int)) = false := decide_eq_false (by omega)
        have g0n : decide (0 < j) = false := decide_eq_false (by omega)
        have H0 := Aside0.mk h0
        clear HA h0
        go_wp2
        go_round
        case rel => exact ⟨j + 1, by go_num, by omega, ⟨fun q hq h => by have := H0.out; omega⟩⟩
        case measure => simp [intOf]; omega
      · have g0 : decide ((0 : Int) < (j : Int)) = true := decide_eq_true (by omega)
        have g0n : decide (0 < j) = true := decide_eq_true (by omega)
        have HN : Aside0 (¬ a.f3[j - 1] < a.f3[j] → asc a.f3 = false) := ⟨fun hn => not_asc (by omega) hlt hn⟩
        have HA2 : Aside0 (a.f3[j - 1] < a.f3[j] → ∀ q (hq : q + 1 < a.f3.length), q + 1 < j + 1 → a.f3[q]'(by omega) < a.f3[q + 1]) := ⟨fun h q hq hqj => by
          by_cases e : q + 1 = j
          · subst e; simpa using h
          · exact HA.out q hq (by omega)⟩
        have e2 : ((j : Int) - 1) = ((j - 1 : Nat) : Int) := by omega
        obtain ⟨ad', e3, x1⟩ := Kd.at_int HR.out ((j : Int) - 1) (by omega) (by omega)
        cases e3
        have hv : rd a.f3 ((j : Int) - 1) = a.f3[j - 1] := by rw [e2]; exact rd_get a.f3 (j - 1) (by omega)
        rw [hv, show ((j : Int) - 1).toNat = j - 1 by omega] at x1
        have n0 : (0 : Int) ≤ (j : Int) - 1 := by omega
        have n1 : (j : Int) - 1 < (a.f3.length : Int) := by omega
        clear HA
        generalize a.f3[j - 1] = x at *
        generalize a.f3[j] = y at *
        clear hv e2 h0
        by_cases h1 : y ≤ x
        · have g1 : decide (y ≤ x) = true := decide_eq_true h1
          have HF : Aside0 (formedS a = false) := ⟨by unfold formedS; rw [HN.out (by omega), Bool.false_and, Bool.false_and]⟩
          clear h1 HN HA2
          go_wp2
          go_ret
          exact ⟨by rw [HF.out]; rfl, HB.out⟩
        · have g1 : decide (y ≤ x) = false := decide_eq_false h1
          have HA := Aside0.mk (HA2.out (by omega))
          clear h1 HN HA2
          go_wp2
          go_round
          case rel => exact ⟨j + 1, by go_num, by omega, HA⟩
          case measure => simp [intOf]; omega
    · have HASC : Aside0 (asc a.f3 = true) := ⟨asc_all (fun q hq => HA.out q hq (by omega))⟩
      obtain rfl : j = a.f3.length := by omega
      clear hlt hj HA HR
      go_upto_region 7 with (fail)
      go_cut [5] (fun v wc => v = .bool (decide (a.f1 = 3) && (wi a.f8 0 11 && wi a.f9 0 499)) ∧ Aside0 (wc.heap[w.heap.size]? = some (.cells #[.int .i64 a.f0, .int .i64 a.f1, .int .i64 a.f2, .slice A a.f3.length c, .int .i64 a.f4, .int .i64 a.f5, .int .i64 a.f6, .int .i64 a.f7, .int .i64 a.f8, .int .i64 a.f9] 25 (0, 0))) ∧ Aside0 (Below w.heap.size w wc))
      case first =>
        by_cases h3 : a.f1 = 3
        · have g3 : (a.f1 == 3) = true := by simpa using h3
          have HP := Aside0.mk h3
          clear h3
          go_wp2_with fail
          refine (trace_within.calls a.f8 0 11 _ _ (wi_t _ _ _)).mono ?_
          rintro e w1 ⟨rfl, hb⟩
          replace HB := Aside0.mk (below_step HB.out hb.below)
          replace K1 := Aside0.mk (blk_below K1.out hb.below)
          clear hb k1
          cases h8 : wi a.f8 0 11 with
          | false =>
            have HP8 := Aside0.mk h8
            clear h8
            go_wp2
            go_meet
            case rel => exact ⟨by simp [HP8.out], K1, HB⟩
          | true =>
            have HP8 := Aside0.mk h8
            clear h8
            have k1 := blk_cell K1.out
            go_wp2_with fail
            refine (trace_within.calls a.f9 0 499 _ _ (wi_t _ _ _)).mono ?_
            rintro e w2 ⟨rfl, hb⟩
            replace HB := Aside0.mk (below_step HB.out hb.below)
            replace K1 := Aside0.mk (blk_below K1.out hb.below)
            clear hb k1
            go_wp2
            go_meet
            case rel => exact ⟨by simp [HP.out, HP8.out], K1, HB⟩
        · have g3 : (a.f1 == 3) = false := by simpa using h3
          have HP := Aside0.mk h3
          clear h3
          go_wp2
          go_meet
          case rel => exact ⟨by simp [HP.out], K1, HB⟩
      case rest =>
      obtain ⟨rfl, K1, HB⟩ := hcut
      clear k1
      have k1 := blk_cell K1.out
      go_upto_region 8 with (fail)
      go_cut [6] (fun v wd => v = .bool (!decide (a.f1 = 3) && (a.f8 == -1 && a.f9 == 0)) ∧ wd = wc)
      case first =>
        by_cases h3 : a.f1 = 3
        · have g3 : (a.f1 != 3) = false := by simpa using h3
          have HP := Aside0.mk h3
          clear h3
          go_wp2
          go_meet
          case rel => exact ⟨by simp [HP.out], rfl⟩
        · have g3 : (a.f1 != 3) = true := by simpa using h3
          have HP := Aside0.mk h3
          clear h3
          by_cases h8 : a.f8 = -1
          · have g8 : (a.f8 == -1) = true := by simpa using h8
            have HP8 := Aside0.mk h8
            clear h8
            go_wp2
            go_meet
            case rel => exact ⟨by simp [HP.out, HP8.out], rfl⟩
          · have g8 : (a.f8 == -1) = false := by simpa using h8
            have HP8 := Aside0.mk h8
            clear h8
            go_wp2
            go_meet
            case rel => exact ⟨by simp [HP8.out], rfl⟩
      case rest =>
      obtain ⟨rfl, hw⟩ := hcut
      subst hw
      have HK : Aside0 (((decide (a.f1 = 3) && (wi a.f8 0 11 && wi a.f9 0 499)) || (!decide (a.f1 = 3) && (a.f8 == -1 && a.f9 == 0))) = kindS a) := ⟨by unfold kindS; by_cases h : a.f1 = 3 <;> simp [h]⟩
      generalize (decide (a.f1 = 3) && (wi a.f8 0 11 && wi a.f9 0 499)) = sh at *
      generalize (!decide (a.f1 = 3) && (a.f8 == -1 && a.f9 == 0)) = ot at *
      skip
      have k1 := blk_cell K1.out
      go_wp2_with fail
      refine (trace_within.calls a.f0 1 1099511627776 _ _ (wi_t _ _ _)).mono ?_
      rintro e v0 ⟨rfl, hb⟩
      replace HB := Aside0.mk (below_step HB.out hb.below)
      replace K1 := Aside0.mk (blk_below K1.out hb.below)
      clear hb
      cases h0 : wi a.f0 1 1099511627776 with
      | false =>
        have HF : Aside0 (formedS a = false) := ⟨by rw [formedS_eq]; unfold restS; rw [h0]; simp⟩
        clear h0 k1
        go_wp2
        go_ret
        exact ⟨by rw [HF.out]; rfl, HB.out⟩
      | true =>
      have Q0 := Aside0.mk h0
      clear h0
      clear k1
      have k1 := blk_cell K1.out
      go_wp2_with fail
      refine (trace_within.calls a.f1 1 4 _ _ (wi_t _ _ _)).mono ?_
      rintro e v1 ⟨rfl, hb⟩
      replace HB := Aside0.mk (below_step HB.out hb.below)
      replace K1 := Aside0.mk (blk_below K1.out hb.below)
      clear hb
      cases h1 : wi a.f1 1 4 with
      | false =>
        have HF : Aside0 (formedS a = false) := ⟨by rw [formedS_eq]; unfold restS; rw [h1]; simp⟩
        clear h1 k1
        go_wp2
        go_ret
        exact ⟨by rw [HF.out]; rfl, HB.out⟩
      | true =>
      have Q1 := Aside0.mk h1
      clear h1
      clear k1
      have k1 := blk_cell K1.out
      go_wp2_with fail
      refine (trace_within.calls a.f2 0 1048576 _ _ (wi_t _ _ _)).mono ?_
      rintro e v2 ⟨rfl, hb⟩
      replace HB := Aside0.mk (below_step HB.out hb.below)
      replace K1 := Aside0.mk (blk_below K1.out hb.below)
      clear hb
      cases h2 : wi a.f2 0 1048576 with
      | false =>
        have HF : Aside0 (formedS a = false) := ⟨by rw [formedS_eq]; unfold restS; rw [h2]; simp⟩
        clear h2 k1
        go_wp2
        go_ret
        exact ⟨by rw [HF.out]; rfl, HB.out⟩
      | true =>
      have Q2 := Aside0.mk h2
      clear h2
      clear k1
      have k1 := blk_cell K1.out
      go_wp2_with fail
      refine (trace_within.calls a.f4 0 11 _ _ (wi_t _ _ _)).mono ?_
      rintro e v3 ⟨rfl, hb⟩
      replace HB := Aside0.mk (below_step HB.out hb.below)
      replace K1 := Aside0.mk (blk_below K1.out hb.below)
      clear hb
      cases h3 : wi a.f4 0 11 with
      | false =>
        have HF : Aside0 (formedS a = false) := ⟨by rw [formedS_eq]; unfold restS; rw [h3]; simp⟩
        clear h3 k1
        go_wp2
        go_ret
        exact ⟨by rw [HF.out]; rfl, HB.out⟩
      | true =>
      have Q3 := Aside0.mk h3
      clear h3
      clear k1
      have k1 := blk_cell K1.out
      go_wp2_with fail
      refine (trace_within.calls a.f5 (-1) 63 _ _ (wi_t _ _ _)).mono ?_
      rintro e v4 ⟨rfl, hb⟩
      replace HB := Aside0.mk (below_step HB.out hb.below)
      replace K1 := Aside0.mk (blk_below K1.out hb.below)
      clear hb
      cases h4 : wi a.f5 (-1) 63 with
      | false =>
        have HF : Aside0 (formedS a = false) := ⟨by rw [formedS_eq]; unfold restS; rw [h4]; simp⟩
        clear h4 k1
        go_wp2
        go_ret
        exact ⟨by rw [HF.out]; rfl, HB.out⟩
      | true =>
      have Q4 := Aside0.mk h4
      clear h4
      clear k1
      have k1 := blk_cell K1.out
      go_wp2_with fail
      refine (trace_within.calls a.f6 0 1000000 _ _ (wi_t _ _ _)).mono ?_
      rintro e v5 ⟨rfl, hb⟩
      replace HB := Aside0.mk (below_step HB.out hb.below)
      replace K1 := Aside0.mk (blk_below K1.out hb.below)
      clear hb
      cases h5 : wi a.f6 0 1000000 with
      | false =>
        have HF : Aside0 (formedS a = false) := ⟨by rw [formedS_eq]; unfold restS; rw [h5]; simp⟩
        clear h5 k1
        go_wp2
        go_ret
        exact ⟨by rw [HF.out]; rfl, HB.out⟩
      | true =>
      have Q5 := Aside0.mk h5
      clear h5
      clear k1
      have k1 := blk_cell K1.out
      go_wp2_with fail
      refine (trace_within.calls a.f7 a.f6 1000001 _ _ (wi_t _ _ _)).mono ?_
      rintro e v6 ⟨rfl, hb⟩
      replace HB := Aside0.mk (below_step HB.out hb.below)
      replace K1 := Aside0.mk (blk_below K1.out hb.below)
      clear hb
      cases h6 : wi a.f7 a.f6 1000001 with
      | false =>
        have HF : Aside0 (formedS a = false) := ⟨by rw [formedS_eq]; unfold restS; rw [h6]; simp⟩
        clear h6 k1
        go_wp2
        go_ret
        exact ⟨by rw [HF.out]; rfl, HB.out⟩
      | true =>
      have Q6 := Aside0.mk h6
      clear h6
      have HF : Aside0 (formedS a = (sh || ot)) := ⟨by rw [formedS_eq, HASC.out, HK.out]; unfold restS; rw [Q0.out, Q1.out, Q2.out, Q3.out, Q4.out, Q5.out, Q6.out]; simp⟩
      clear k1
      cases sh with
      | true =>
        go_wp2
        go_ret
        exact ⟨by rw [HF.out]; rfl, HB.out⟩
      | false =>
        go_wp2
        go_ret
        exact ⟨by rw [HF.out, Bool.false_or]; rfl, HB.out⟩
set_option maxHeartbeats 4000000 in
set_option maxRecDepth 100000 in
theorem rformed_calls (a : S25) (A : Option Addr) (c : Nat) (w : World) (hr : Kd.C (Kd.int .i64) w A a.f3.length a.f3) (hc : a.f3.length ≤ c) (hl : a.f3.length ≤ 1000000) :
    Calls Try.prog 87 #[.agg #[.int .i64 a.f0, .int .i64 a.f1, .int .i64 a.f2, .slice A a.f3.length c, .int .i64 a.f4, .int .i64 a.f5, .int .i64 a.f6, .int .i64 a.f7, .int .i64 a.f8, .int .i64 a.f9]] w fun e w' => e = .returned (.bool (formedS a)) ∧ Below w.heap.size w w' := by
  have hu25 := Try.underlying25
  have HR := Aside0.mk hr
  clear hr
  go_enter Try.func87, Try.ntmps87
  go_upto_region 1 with (fail)
  have K1 := Aside0.mk (blk_new w (.cells #[.int .i64 a.f0, .int .i64 a.f1, .int .i64 a.f2, .slice A a.f3.length c, .int .i64 a.f4, .int .i64 a.f5, .int .i64 a.f6, .int .i64 a.f7, .int .i64 a.f8, .int .i64 a.f9] 25))
  have HB : Aside0 (Below w.heap.size w (w.alloc (.cells #[.int .i64 a.f0, .int .i64 a.f1, .int .i64 a.f2, .slice A a.f3.length c, .int .i64 a.f4, .int .i64 a.f5, .int .i64 a.f6, .int .i64 a.f7, .int .i64 a.f8, .int .i64 a.f9] 25))) := ⟨below_alloc (Below.refl _ _) _⟩
  replace HR := Aside0.mk (Kd.C_below HR.out HB.out)
  generalize w.alloc (.cells #[.int .i64 a.f0, .int .i64 a.f1, .int .i64 a.f2, .slice A a.f3.length c, .int .i64 a.f4, .int .i64 a.f5, .int .i64 a.f6, .int .i64 a.f7, .int .i64 a.f8, .int .i64 a.f9] 25) = w0 at *
  have k1 := blk_cell K1.out
  go_wp2_with fail
  refine (quietusref38_within.calls a.f0 1 1099511627776 _ _ (wi_r _ _ _)).mono ?_
  rintro e v0 ⟨rfl, hb⟩
  replace HB := Aside0.mk (below_step HB.out hb.below)
  replace HR := Aside0.mk (Kd.C_below HR.out hb.below)
  replace K1 := Aside0.mk (blk_below K1.out hb.below)
  clear hb k1
  have k1 := blk_cell K1.out
  go_wp2_with fail
  refine (quietusref38_within.calls a.f1 1 4 _ _ (wi_r _ _ _)).mono ?_
  rintro e v1 ⟨rfl, hb⟩
  replace HB := Aside0.mk (below_step HB.out hb.below)
  replace HR := Aside0.mk (Kd.C_below HR.out hb.below)
  replace K1 := Aside0.mk (blk_below K1.out hb.below)
  clear hb k1
  have k1 := blk_cell K1.out
  go_wp2_with fail
  refine (quietusref38_within.calls a.f2 0 1048576 _ _ (wi_r _ _ _)).mono ?_
  rintro e v2 ⟨rfl, hb⟩
  replace HB := Aside0.mk (below_step HB.out hb.below)
  replace HR := Aside0.mk (Kd.C_below HR.out hb.below)
  replace K1 := Aside0.mk (blk_below K1.out hb.below)
  clear hb k1
  have k1 := blk_cell K1.out
  go_wp2_with fail
  refine (quietusref38_within.calls a.f4 0 11 _ _ (wi_r _ _ _)).mono ?_
  rintro e v3 ⟨rfl, hb⟩
  replace HB := Aside0.mk (below_step HB.out hb.below)
  replace HR := Aside0.mk (Kd.C_below HR.out hb.below)
  replace K1 := Aside0.mk (blk_below K1.out hb.below)
  clear hb k1
  have k1 := blk_cell K1.out
  go_wp2_with fail
  refine (quietusref38_within.calls a.f5 (-1) 63 _ _ (wi_r _ _ _)).mono ?_
  rintro e v4 ⟨rfl, hb⟩
  replace HB := Aside0.mk (below_step HB.out hb.below)
  replace HR := Aside0.mk (Kd.C_below HR.out hb.below)
  replace K1 := Aside0.mk (blk_below K1.out hb.below)
  clear hb k1
  have k1 := blk_cell K1.out
  go_wp2_with fail
  refine (quietusref38_within.calls a.f6 0 1000000 _ _ (wi_r _ _ _)).mono ?_
  rintro e v5 ⟨rfl, hb⟩
  replace HB := Aside0.mk (below_step HB.out hb.below)
  replace HR := Aside0.mk (Kd.C_below HR.out hb.below)
  replace K1 := Aside0.mk (blk_below K1.out hb.below)
  clear hb k1
  have k1 := blk_cell K1.out
  go_wp2_with fail
  refine (quietusref38_within.calls a.f7 a.f6 1000001 _ _ (wi_r _ _ _)).mono ?_
  rintro e v6 ⟨rfl, hb⟩
  replace HB := Aside0.mk (below_step HB.out hb.below)
  replace HR := Aside0.mk (Kd.C_below HR.out hb.below)
  replace K1 := Aside0.mk (blk_below K1.out hb.below)
  clear hb k1
  have HF0 := Aside0.mk (formedS_eq a)
  unfold restS at HF0
  generalize wi a.f0 1 1099511627776 = b0 at *
  generalize wi a.f1 1 4 = b1 at *
  generalize wi a.f2 0 1048576 = b2 at *
  generalize wi a.f4 0 11 = b3 at *
  generalize wi a.f5 (-1) 63 = b4 at *
  generalize wi a.f6 0 1000000 = b5 at *
  generalize wi a.f7 a.f6 1000001 = b6 at *
  cases b0 with
  | false =>
    have HF : Aside0 (formedS a = false) := ⟨by rw [HF0.out]; simp⟩
    clear HF0
    go_wp2
    go_ret
    exact ⟨by rw [HF.out]; rfl, HB.out⟩
  | true =>
  cases b1 with
  | false =>
    have HF : Aside0 (formedS a = false) := ⟨by rw [HF0.out]; simp⟩
    clear HF0
    go_wp2
    go_ret
    exact ⟨by rw [HF.out]; rfl, HB.out⟩
  | true =>
  cases b2 with
  | false =>
    have HF : Aside0 (formedS a = false) := ⟨by rw [HF0.out]; simp⟩
    clear HF0
    go_wp2
    go_ret
    exact ⟨by rw [HF.out]; rfl, HB.out⟩
  | true =>
  cases b3 with
  | false =>
    have HF : Aside0 (formedS a = false) := ⟨by rw [HF0.out]; simp⟩
    clear HF0
    go_wp2
    go_ret
    exact ⟨by rw [HF.out]; rfl, HB.out⟩
  | true =>
  cases b4 with
  | false =>
    have HF : Aside0 (formedS a = false) := ⟨by rw [HF0.out]; simp⟩
    clear HF0
    go_wp2
    go_ret
    exact ⟨by rw [HF.out]; rfl, HB.out⟩
  | true =>
  cases b5 with
  | false =>
    have HF : Aside0 (formedS a = false) := ⟨by rw [HF0.out]; simp⟩
    clear HF0
    go_wp2
    go_ret
    exact ⟨by rw [HF.out]; rfl, HB.out⟩
  | true =>
  cases b6 with
  | false =>
    have HF : Aside0 (formedS a = false) := ⟨by rw [HF0.out]; simp⟩
    clear HF0
    go_wp2
    go_ret
    exact ⟨by rw [HF.out]; rfl, HB.out⟩
  | true =>
  have HF : Aside0 (formedS a = (asc a.f3 && kindS a)) := ⟨by rw [HF0.out]; simp⟩
  clear HF0
  go_wp2
  go_loopw [10] (fun v wr => ∃ j : Nat, v = .int .i64 j ∧ 1 ≤ j ∧ j ≤ max 1 a.f3.length ∧ Aside0 (∀ q (hq : q + 1 < a.f3.length), q + 1 < j → a.f3[q]'(by omega) < a.f3[q + 1]) ∧ Aside0 (Below v6.heap.size v6 wr)) (fun v _ => a.f3.length - (intOf v).toNat)
  case atStart => exact ⟨1, rfl, by omega, by omega, ⟨fun q hq h => by omega⟩, ⟨Below.refl _ _⟩⟩
  case round =>
    obtain ⟨j, rfl, hj1, hj, HA, HB2⟩ := hrel
    have K1w := Aside0.mk (blk_below K1.out HB2.out)
    have k1 := blk_cell K1w.out
    by_cases hlt : j < a.f3.length
    · obtain ⟨ad, e1, x0⟩ := Kd.at_int (Kd.C_below HR.out HB2.out) (j : Int) (by omega) (by omega)
      cases e1
      rw [rd_get a.f3 j hlt, Int.toNat_natCast] at x0
      obtain ⟨ad', e3, x1⟩ := Kd.at_int (Kd.C_below HR.out HB2.out) ((j : Int) - 1) (by omega) (by omega)
      cases e3
      have HN : Aside0 (¬ a.f3[j - 1] < a.f3[j] → asc a.f3 = false) := ⟨fun hn => not_asc (by omega) hlt hn⟩
      have HA2 : Aside0 (a.f3[j - 1] < a.f3[j] → ∀ q (hq : q + 1 < a.f3.length), q + 1 < j + 1 → a.f3[q]'(by omega) < a.f3[q + 1]) := ⟨fun h q hq hqj => by
        by_cases e : q + 1 = j
        · subst e; simpa using h
        · exact HA.out q hq (by omega)⟩
      have e2 : ((j : Int) - 1) = ((j - 1 : Nat) : Int) := by omega
      have hv : rd a.f3 ((j : Int) - 1) = a.f3[j - 1] := by rw [e2]; exact rd_get a.f3 (j - 1) (by omega)
      rw [hv, show ((j : Int) - 1).toNat = j - 1 by omega] at x1
      have n0 : (0 : Int) ≤ (j : Int) - 1 := by omega
      have n1 : (j : Int) - 1 < (a.f3.length : Int) := by omega
      have n2 : IntKind.i64.wrap ((j : Int) - 1) = (j : Int) - 1 := by rw [IntKind.wrap_i64]; omega
      have n3 : ((j : Int) - 1).toNat = j - 1 := by omega
      clear HA
      generalize a.f3[j - 1] = x at *
      generalize a.f3[j] = y at *
      clear hv e2
      by_cases h1 : y ≤ x
      · have g1 : decide (y ≤ x) = true := decide_eq_true h1
        have HF2 : Aside0 (formedS a = false) := ⟨by rw [HF.out, HN.out (by omega), Bool.false_and]⟩
        clear h1 HN HA2 HF
        go_wp2_with fail
        go_quiet (fail)
        clear k1 x0 x1 n0 n1 n2 n3
        go_wp2
        go_ret
        exact ⟨by rw [HF2.out]; rfl, below_step HB.out (pw_below_drewN HB2.out _)⟩
      · have g1 : decide (y ≤ x) = false := decide_eq_false h1
        have HA := Aside0.mk (HA2.out (by omega))
        clear h1 HN HA2
        go_wp2_with fail
        go_quiet (fail)
        clear k1 x0 x1 n0 n1 n2 n3
        go_wp2
        go_roundw
        case rel => exact ⟨j + 1, by go_num, by omega, by omega, HA, ⟨pw_below_drewN HB2.out _⟩⟩
        case measure => simp [intOf]; omega
    · have HASC : Aside0 (asc a.f3 = true) := ⟨asc_all (fun q hq => HA.out q hq (by omega))⟩
      replace HF := Aside0.mk (show formedS a = kindS a by rw [HF.out, HASC.out, Bool.true_and])
      replace HB := Aside0.mk (below_step HB.out HB2.out)
      clear HA HASC HB2
      by_cases h3 : a.f1 = 3
      · have g3 : (a.f1 != 3) = false := by simpa using h3
        have HK : Aside0 (formedS a = (wi a.f8 0 11 && wi a.f9 0 499)) := ⟨by rw [HF.out]; unfold kindS; rw [if_pos h3]⟩
        clear h3
        go_wp2_with fail
        refine (quietusref38_within.calls a.f8 0 11 _ _ (wi_r _ _ _)).mono ?_
        rintro e u1 ⟨rfl, hb⟩
        replace HB := Aside0.mk (below_step HB.out hb.below)
        replace K1w := Aside0.mk (blk_below K1w.out hb.below)
        clear hb k1
        have k1 := blk_cell K1w.out
        go_wp2_with fail
        refine (quietusref38_within.calls a.f9 0 499 _ _ (wi_r _ _ _)).mono ?_
        rintro e u2 ⟨rfl, hb⟩
        replace HB := Aside0.mk (below_step HB.out hb.below)
        clear hb k1
        generalize wi a.f8 0 11 = x at *
        generalize wi a.f9 0 499 = y at *
        cases x with
        | false =>
          go_wp2
          go_ret
          exact ⟨by rw [HK.out]; rfl, HB.out⟩
        | true =>
          go_wp2
          go_ret
          exact ⟨by rw [HK.out]; rfl, HB.out⟩
      · have g3 : (a.f1 != 3) = true := by simpa using h3
        have HK : Aside0 (formedS a = (a.f8 == -1 && a.f9 == 0)) := ⟨by rw [HF.out]; unfold kindS; rw [if_neg h3]⟩
        clear h3
        by_cases h8 : a.f8 = -1
        · have g8 : (a.f8 == -1) = true := by simpa using h8
          have HK2 := Aside0.mk (HK.out.trans (show _ = (a.f9 == 0) by rw [g8, Bool.true_and]))
          clear h8
          go_wp2
          go_ret
          exact ⟨by rw [HK2.out]; rfl, HB.out⟩
        · have g8 : (a.f8 == -1) = false := by simpa using h8
          have HK2 := Aside0.mk (HK.out.trans (show _ = false by rw [g8, Bool.false_and]))
          clear h8
          go_wp2
          go_ret
          exact ⟨by rw [HK2.out]; rfl, HB.out⟩
theorem made_bd (a o : S25) (h3 : a.f1 = 3) (o3 : o.f1 = 3) (ha : formedS a = true) (ho : formedS o = true) : 0 ≤ a.f9 ∧ a.f9 ≤ 499 ∧ 0 ≤ o.f9 ∧ o.f9 ≤ 499 := by
  have ka : kindS a = true := by rw [formedS_eq] at ha; simp only [Bool.and_eq_true] at ha; exact ha.2
  have ko : kindS o = true := by rw [formedS_eq] at ho; simp only [Bool.and_eq_true] at ho; exact ho.2
  unfold kindS at ka ko
  rw [if_pos h3] at ka
  rw [if_pos o3] at ko
  simp only [wi, Bool.and_eq_true, decide_eq_true_eq] at ka ko
  omega
set_option maxHeartbeats 4000000 in
set_option maxRecDepth 100000 in
theorem made_calls (a o : S25) (A B : Option Addr) (c d : Nat) (w : World) (ha : formedS a = true) (ho : formedS o = true) :
    Calls Try.prog 65 #[.agg #[.int .i64 a.f0, .int .i64 a.f1, .int .i64 a.f2, .slice A a.f3.length c, .int .i64 a.f4, .int .i64 a.f5, .int .i64 a.f6, .int .i64 a.f7, .int .i64 a.f8, .int .i64 a.f9], .agg #[.int .i64 o.f0, .int .i64 o.f1, .int .i64 o.f2, .slice B o.f3.length d, .int .i64 o.f4, .int .i64 o.f5, .int .i64 o.f6, .int .i64 o.f7, .int .i64 o.f8, .int .i64 o.f9]] w fun e w' => e = .returned (.bool (madeS a o)) ∧ Below w.heap.size w w' := by
  have hu25 := Try.underlying25
  by_cases h2 : a.f2 = o.f2
  case neg =>
    have g2 : (a.f2 != o.f2) = true := by simpa using h2
    have HM : Aside0 (madeS a o = false) := ⟨by unfold madeS; simp [h2]⟩
    clear h2 ha ho
    go_enter Try.func65, Try.ntmps65
    go_wp2
    go_ret
    exact ⟨by rw [HM.out]; first | rfl | (simp [*]; done), by repeat (first | with_reducible exact Below.refl _ _ | with_reducible refine below_alloc ?_ _)⟩
  have g2 : (a.f2 != o.f2) = false := by simpa using h2
  by_cases h4 : a.f1 = 4
  · have g4 : (a.f1 == 4) = true := by simpa using h4
    have HM : Aside0 (madeS a o = (o.f1 != 3)) := ⟨by unfold madeS; simp [h2, h4]⟩
    clear h2 h4 ha ho
    go_enter Try.func65, Try.ntmps65
    go_wp2
    go_ret
    exact ⟨by rw [HM.out]; first | rfl | (simp [*]; done), by repeat (first | with_reducible exact Below.refl _ _ | with_reducible refine below_alloc ?_ _)⟩
  have g4 : (a.f1 == 4) = false := by simpa using h4
  by_cases h3 : a.f1 = 3
  case neg =>
    have g3 : (a.f1 == 3) = false := by simpa using h3
    have HM : Aside0 (madeS a o = (o.f1 != 4)) := ⟨by unfold madeS; simp [h2, h3, h4]⟩
    clear h2 h3 h4 ha ho
    go_enter Try.func65, Try.ntmps65
    go_wp2
    go_ret
    exact ⟨by rw [HM.out]; first | rfl | (simp [*]; done), by repeat (first | with_reducible exact Below.refl _ _ | with_reducible refine below_alloc ?_ _)⟩
  have g3 : (a.f1 == 3) = true := by simpa using h3
  by_cases o3 : o.f1 = 3
  case neg =>
    have k3 : (o.f1 == 3) = false := by simpa using o3
    have HM : Aside0 (madeS a o = false) := ⟨by unfold madeS; simp [h2, h3, h4, o3]⟩
    clear h2 h3 h4 o3 ha ho
    go_enter Try.func65, Try.ntmps65
    go_wp2
    go_ret
    exact ⟨by rw [HM.out]; first | rfl | (simp [*]; done), by repeat (first | with_reducible exact Below.refl _ _ | with_reducible refine below_alloc ?_ _)⟩
  have k3 : (o.f1 == 3) = true := by simpa using o3
  obtain ⟨b1, b2, b3, b4⟩ := made_bd a o h3 o3 ha ho
  have HM : Aside0 (madeS a o = wi (a.f9 - o.f9) 0 1) := ⟨by unfold madeS wi; simp [h2, h3, o3]⟩
  have hs : IntKind.i64.wrap (a.f9 - o.f9) = a.f9 - o.f9 := by rw [IntKind.wrap_i64]; omega
  clear h2 h3 h4 o3 ha ho
  go_enter Try.func65, Try.ntmps65
  go_wp2_with fail
  refine (trace_within.calls (a.f9 - o.f9) 0 1 _ _ (wi_t _ _ _)).mono ?_
  rintro e w1 ⟨rfl, hb⟩
  have HB := Aside0.mk (below_step (below_alloc (below_alloc (Below.refl w.heap.size w) _) _) hb.below)
  clear hb
  go_wp2
  go_ret
  exact ⟨by rw [HM.out]; rfl, HB.out⟩
theorem rmade_bd (a o : S25) (h3 : a.f1 = 3) (o3 : o.f1 = 3) (ha : formedS a = true) (ho : formedS o = true) : 0 ≤ a.f9 ∧ a.f9 ≤ 499 ∧ 0 ≤ o.f9 ∧ o.f9 ≤ 499 := by
  have ka : kindS a = true := by rw [formedS_eq] at ha; simp only [Bool.and_eq_true] at ha; exact ha.2
  have ko : kindS o = true := by rw [formedS_eq] at ho; simp only [Bool.and_eq_true] at ho; exact ho.2
  unfold kindS at ka ko
  rw [if_pos h3] at ka
  rw [if_pos o3] at ko
  simp only [wi, Bool.and_eq_true, decide_eq_true_eq] at ka ko
  omega
set_option maxHeartbeats 4000000 in
set_option maxRecDepth 100000 in
theorem rmade_calls (a o : S25) (A B : Option Addr) (c d : Nat) (w : World) (ha : formedS a = true) (ho : formedS o = true) :
    Calls Try.prog 88 #[.agg #[.int .i64 a.f0, .int .i64 a.f1, .int .i64 a.f2, .slice A a.f3.length c, .int .i64 a.f4, .int .i64 a.f5, .int .i64 a.f6, .int .i64 a.f7, .int .i64 a.f8, .int .i64 a.f9], .agg #[.int .i64 o.f0, .int .i64 o.f1, .int .i64 o.f2, .slice B o.f3.length d, .int .i64 o.f4, .int .i64 o.f5, .int .i64 o.f6, .int .i64 o.f7, .int .i64 o.f8, .int .i64 o.f9]] w fun e w' => e = .returned (.bool (madeS a o)) ∧ Below w.heap.size w w' := by
  have hu25 := Try.underlying25
  by_cases h2 : a.f2 = o.f2
  case neg =>
    have g2 : (a.f2 != o.f2) = true := by simpa using h2
    have HM : Aside0 (madeS a o = false) := ⟨by unfold madeS; simp [h2]⟩
    clear h2 ha ho
    go_enter Try.func88, Try.ntmps88
    go_wp2
    go_ret
    exact ⟨by rw [HM.out]; first | rfl | (simp [*]; done), by repeat (first | with_reducible exact Below.refl _ _ | with_reducible refine below_alloc ?_ _)⟩
  have g2 : (a.f2 != o.f2) = false := by simpa using h2
  by_cases h4 : a.f1 = 4
  · have g4 : (a.f1 == 4) = true := by simpa using h4
    have HM : Aside0 (madeS a o = (o.f1 != 3)) := ⟨by unfold madeS; simp [h2, h4]⟩
    clear h2 h4 ha ho
    go_enter Try.func88, Try.ntmps88
    go_wp2
    go_ret
    exact ⟨by rw [HM.out]; first | rfl | (simp [*]; done), by repeat (first | with_reducible exact Below.refl _ _ | with_reducible refine below_alloc ?_ _)⟩
  have g4 : (a.f1 == 4) = false := by simpa using h4
  by_cases h3 : a.f1 = 3
  case neg =>
    have g3 : (a.f1 == 3) = false := by simpa using h3
    have ro : restS o = true := by rw [formedS_eq] at ho; simp only [Bool.and_eq_true] at ho; exact ho.1.2
    unfold restS at ro
    simp only [wi, Bool.and_eq_true, decide_eq_true_eq] at ro
    have ro2 : o.f1 = 1 ∨ o.f1 = 2 ∨ o.f1 = 3 ∨ o.f1 = 4 := by omega
    clear ro
    rcases ro2 with e | e | e | e
    · have x1 : (o.f1 == 1) = true := by rw [e]; rfl
      have x2 : (o.f1 == 2) = false := by rw [e]; rfl
      have x3 : (o.f1 == 3) = false := by rw [e]; rfl
      have HM : Aside0 (madeS a o = true) := ⟨by unfold madeS; simp [h2, h3, h4, e]⟩
      clear h2 h3 h4 e ha ho
      go_enter Try.func88, Try.ntmps88
      go_wp2
      go_ret
      exact ⟨by rw [HM.out]; first | rfl | (simp [*]; done), by repeat (first | with_reducible exact Below.refl _ _ | with_reducible refine below_alloc ?_ _)⟩
    · have x1 : (o.f1 == 1) = false := by rw [e]; rfl
      have x2 : (o.f1 == 2) = true := by rw [e]; rfl
      have x3 : (o.f1 == 3) = false := by rw [e]; rfl
      have HM : Aside0 (madeS a o = true) := ⟨by unfold madeS; simp [h2, h3, h4, e]⟩
      clear h2 h3 h4 e ha ho
      go_enter Try.func88, Try.ntmps88
      go_wp2
      go_ret
      exact ⟨by rw [HM.out]; first | rfl | (simp [*]; done), by repeat (first | with_reducible exact Below.refl _ _ | with_reducible refine below_alloc ?_ _)⟩
    · have x1 : (o.f1 == 1) = false := by rw [e]; rfl
      have x2 : (o.f1 == 2) = false := by rw [e]; rfl
      have x3 : (o.f1 == 3) = true := by rw [e]; rfl
      have HM : Aside0 (madeS a o = true) := ⟨by unfold madeS; simp [h2, h3, h4, e]⟩
      clear h2 h3 h4 e ha ho
      go_enter Try.func88, Try.ntmps88
      go_wp2
      go_ret
      exact ⟨by rw [HM.out]; first | rfl | (simp [*]; done), by repeat (first | with_reducible exact Below.refl _ _ | with_reducible refine below_alloc ?_ _)⟩
    · have x1 : (o.f1 == 1) = false := by rw [e]; rfl
      have x2 : (o.f1 == 2) = false := by rw [e]; rfl
      have x3 : (o.f1 == 3) = false := by rw [e]; rfl
      have HM : Aside0 (madeS a o = false) := ⟨by unfold madeS; simp [h2, h3, h4, e]⟩
      clear h2 h3 h4 e ha ho
      go_enter Try.func88, Try.ntmps88
      go_wp2
      go_ret
      exact ⟨by rw [HM.out]; first | rfl | (simp [*]; done), by repeat (first | with_reducible exact Below.refl _ _ | with_reducible refine below_alloc ?_ _)⟩
  have g3 : (a.f1 == 3) = true := by simpa using h3
  by_cases o3 : o.f1 = 3
  case neg =>
    have k3 : (o.f1 == 3) = false := by simpa using o3
    have HM : Aside0 (madeS a o = false) := ⟨by unfold madeS; simp [h2, h3, h4, o3]⟩
    clear h2 h3 h4 o3 ha ho
    go_enter Try.func88, Try.ntmps88
    go_wp2
    go_ret
    exact ⟨by rw [HM.out]; first | rfl | (simp [*]; done), by repeat (first | with_reducible exact Below.refl _ _ | with_reducible refine below_alloc ?_ _)⟩
  have k3 : (o.f1 == 3) = true := by simpa using o3
  obtain ⟨b1, b2, b3, b4⟩ := rmade_bd a o h3 o3 ha ho
  have hs : IntKind.i64.wrap (o.f9 + 1) = o.f9 + 1 := by rw [IntKind.wrap_i64]; omega
  by_cases e : a.f9 = o.f9
  · have ke : (a.f9 == o.f9) = true := by simpa using e
    have HM : Aside0 (madeS a o = true) := ⟨by unfold madeS; simp [h2, h3, o3, e]⟩
    clear h2 h3 h4 o3 e ha ho
    go_enter Try.func88, Try.ntmps88
    go_wp2
    go_ret
    exact ⟨by rw [HM.out]; first | rfl | (simp [*]; done), by repeat (first | with_reducible exact Below.refl _ _ | with_reducible refine below_alloc ?_ _)⟩
  have ke : (a.f9 == o.f9) = false := by simpa using e
  by_cases e1 : a.f9 = o.f9 + 1
  · have ke1 : (a.f9 == o.f9 + 1) = true := by simpa using e1
    have HM : Aside0 (madeS a o = true) := ⟨by unfold madeS; simp [h2, h3, o3, e1]; omega⟩
    clear h2 h3 h4 o3 e e1 ha ho
    go_enter Try.func88, Try.ntmps88
    go_wp2
    go_ret
    exact ⟨by rw [HM.out]; first | rfl | (simp [*]; done), by repeat (first | with_reducible exact Below.refl _ _ | with_reducible refine below_alloc ?_ _)⟩
  have ke1 : (a.f9 == o.f9 + 1) = false := by simpa using e1
  have HM : Aside0 (madeS a o = false) := ⟨by unfold madeS; simp [h2, h3, o3]; omega⟩
  clear h2 h3 h4 o3 e e1 ha ho
  go_enter Try.func88, Try.ntmps88
  go_wp2
  go_ret
  exact ⟨by rw [HM.out]; first | rfl | (simp [*]; done), by repeat (first | with_reducible exact Below.refl _ _ | with_reducible refine below_alloc ?_ _)⟩
end Go.Proofs.Ytlelhmephibfjaa.T
