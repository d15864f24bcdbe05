/- Texts of this claim, laid together: H7. -/
import Derived.Test.YtlelhmephibfjaaB2

namespace Go.Proofs.Ytlelhmephibfjaa.T
set_option linter.unusedVariables false
set_option linter.unusedSimpArgs false
open Go.RowKit Go.Proofs.YtlelhmephibfjaaW.PrintWords Go.Proofs.YtlelhmephibfjaaW.PrintLast Go.Proofs.YtlelhmephibfjaaW.PrintMore

def capS (a : S25) (x : S71) : Bool := decide (x.f0 = a.f4) && thereS a x.f1

set_option maxHeartbeats 8000000 in
set_option maxRecDepth 100000 in
theorem sees1_calls (x : S71) (a : S25) (A3 : Option Addr) (c3 : Nat) (b : Nat) (w : World) (hi : Kd.C (Kd.int .i64) w A3 a.f3.length a.f3) (hc : a.f3.length ≤ c3)
    (hb : w.heap[b]? = some (.cells #[.int .i64 a.f0, .int .i64 a.f1, .int .i64 a.f2, .slice A3 a.f3.length c3, .int .i64 a.f4, .int .i64 a.f5, .int .i64 a.f6, .int .i64 a.f7, .int .i64 a.f8, .int .i64 a.f9] 25 (0, 0))) :
    Calls Try.prog 93 #[V71 x, .pointer (some ⟨b, 0, none⟩)] w fun e w' => e = .returned (.bool (capS a x)) ∧ Below w.heap.size w w' := by
  have HI := Aside0.mk hi
  have HB := Aside0.mk (blk_alloc hb (.cells #[.int .i64 x.f0, .int .i64 x.f1] 71))
  clear hi hb
  unfold V71
  have hk := blk_cell HB.out
  go_enter Try.func93, Try.ntmps93
  by_cases h0 : x.f0 = a.f4
  · have g0 : (x.f0 == a.f4) = true := by simpa using h0
    have hv : capS a x = thereS a x.f1 := by unfold capS; rw [decide_eq_true h0]; rfl
    have HV := Aside0.mk hv
    clear hv h0
    go_wp2_with fail
    clear hk
    refine (trace_there.calls _ _ _ _ c3 a.f3 _ _ _ _ _ _ _ _ _ (Kd.C_alloc HI.out _) hc (there_t a x.f1)).mono ?_
    rintro e w2 ⟨rfl, hb⟩
    have HB2 : Aside0 (Below w.heap.size w w2) := ⟨below_step (by (repeat (first | with_reducible exact (Below.refl _ _) | with_reducible exact Below.refl _ _ | with_reducible refine below_drew ?_ | with_reducible refine pw_below_drewN ?_ _ | with_reducible refine below_alloc ?_ _))) hb⟩
    clear hb
    go_wp2
    go_ret
    exact ⟨by rw [HV.out]; rfl, HB2.out⟩
  · have g0 : (x.f0 == a.f4) = false := by simpa using h0
    have hv : capS a x = false := by unfold capS; rw [decide_eq_false h0]; rfl
    have HV := Aside0.mk hv
    clear hv h0
    go_wp2
    go_ret
    exact ⟨by rw [HV.out]; rfl, by (repeat (first | with_reducible exact (Below.refl _ _) | with_reducible exact Below.refl _ _ | with_reducible refine below_drew ?_ | with_reducible refine pw_below_drewN ?_ _ | with_reducible refine below_alloc ?_ _))⟩

def bitS (bad h : Int) : Bool := bits BinOp.and IntKind.i64 (bad / 2 ^ h.toNat) 1 == 1
def seesS (bad : Int) (l : List S71) (a : S25) : Bool := (bitS bad a.f4 && decide (a.f6 < a.f7)) || l.any (capS a)

set_option maxHeartbeats 8000000 in
set_option maxRecDepth 100000 in
theorem sees_calls (bad : Int) (A : Option Addr) (c : Nat) (l : List S71) (a : S25) (A3 : Option Addr) (c3 : Nat) (w : World) (hr : Kd.C k71 w A l.length l) (hl : l.length ≤ 1000000) (hi : Kd.C (Kd.int .i64) w A3 a.f3.length a.f3) (hc : a.f3.length ≤ c3)
    (h0 : 0 ≤ a.f4) (h1 : a.f4 ≤ 11) (b0 : 0 ≤ bad) (b1 : bad ≤ 4095) :
    Calls Try.prog 70 #[.agg #[.int .i64 bad, .slice A l.length c], .agg #[.int .i64 a.f0, .int .i64 a.f1, .int .i64 a.f2, .slice A3 a.f3.length c3, .int .i64 a.f4, .int .i64 a.f5, .int .i64 a.f6, .int .i64 a.f7, .int .i64 a.f8, .int .i64 a.f9]] w fun e w' => e = .returned (.bool (seesS bad l a)) ∧ Below w.heap.size w w' := by
  have g0 : decide (a.f4 < 0) = false := by simp; omega
  have HR := Aside0.mk hr
  have HI := Aside0.mk hi
  clear hr hi
  have hv : seesS bad l a = ((bitS bad a.f4 && decide (a.f6 < a.f7)) || l.any (capS a)) := rfl
  have hb : (bits BinOp.and IntKind.i64 (bad / 2 ^ a.f4.toNat) 1 == 1) = bitS bad a.f4 := rfl
  cases e1 : bitS bad a.f4 <;> cases e2 : decide (a.f6 < a.f7) <;> rw [e1] at hb <;> rw [e1, e2] at hv <;> simp only [Bool.and_false, Bool.and_true, Bool.false_and, Bool.true_and, Bool.false_or, Bool.true_or] at hv <;> have HV := Aside0.mk hv <;> clear hv e1
  case true.true =>
    go_enter Try.func70, Try.ntmps70
    go_wp2
    go_ret
    exact ⟨by rw [HV.out]; rfl, by (repeat (first | with_reducible exact (Below.refl _ _) | with_reducible exact Below.refl _ _ | with_reducible refine below_drew ?_ | with_reducible refine pw_below_drewN ?_ _ | with_reducible refine below_alloc ?_ _))⟩
  all_goals
    go_enter Try.func70, Try.ntmps70
    go_wp2_with fail
    refine (con71_calls 93 #[.pointer (some ⟨w.heap.size + 1, 0, none⟩)] (capS a) A l c _ (Kd.C_alloc (Kd.C_alloc HR.out _) _) hl (fun _ _ => rfl) ?_).mono ?_
    · intro x w' _ hb2
      have K := blk_below (blk_new (w.alloc _) _) hb2
      rw [World.size_alloc] at K
      exact sees1_calls x a A3 c3 _ w' (Kd.C_below (Kd.C_alloc (Kd.C_alloc HI.out _) _) hb2) hc K
    · rintro e w2 ⟨rfl, hb2⟩
      have HB2 : Aside0 (Below w.heap.size w w2) := ⟨below_step (by (repeat (first | with_reducible exact (Below.refl _ _) | with_reducible exact Below.refl _ _ | with_reducible refine below_drew ?_ | with_reducible refine pw_below_drewN ?_ _ | with_reducible refine below_alloc ?_ _))) hb2⟩
      clear hb2
      go_wp2
      go_ret
      exact ⟨by rw [HV.out]; rfl, HB2.out⟩
end Go.Proofs.Ytlelhmephibfjaa.T
