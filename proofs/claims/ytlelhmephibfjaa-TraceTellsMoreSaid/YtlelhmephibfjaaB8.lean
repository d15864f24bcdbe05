/- Texts of this claim, laid together: TF24, H5, S1. -/
import Derived.Test.YtlelhmephibfjaaB1
import Derived.Test.YtlelhmephibfjaaB7
import Derived.Test.YtlelhmephibfjaaB6

namespace Go.Proofs.Ytlelhmephibfjaa.T
open Go.RowKit Go.Proofs.YtlelhmephibfjaaW.PrintWords Go.Proofs.YtlelhmephibfjaaW.PrintLast Go.Proofs.YtlelhmephibfjaaW.PrintMore
attribute [local go_sem] max2_int min2_int max_two min_two max_three min_three max_four min_four   -- for this text's walks alone
set_option linter.unusedVariables false
set_option linter.unusedSimpArgs false

/-! ### quietusref38_SameList: function 24 -/
def quietusref38_SameList.l0 : Nat → List Int → List Int → Int → Option (Bool)
  | 0, _, _, _ => none
  | k + 1, x0, x1, x5 => if x5 < (x0.length : Int) then (if 0 ≤ x5 then (if x5 < (x1.length : Int) then (if (rd x0 x5) = (rd x1 x5) then (quietusref38_SameList.l0 k x0 x1 (wrap64 (x5 + 1))) else (some false)) else (none)) else (none)) else (some true)
def quietusref38_SameList.f (k : Nat) (l0 : List Int) (l1 : List Int) : Option (Bool) := if (l0.length : Int) = (l1.length : Int) then (quietusref38_SameList.l0 k l0 l1 0) else (some false)
theorem quietusref38_SameList.mono_l : ∀ k, (∀ y0 y1 y2, LeO (quietusref38_SameList.l0 k y0 y1 y2) (quietusref38_SameList.l0 (k + 1) y0 y1 y2))
  | 0 => fun _ _ _ r h => by simp [quietusref38_SameList.l0] at h
  | k + 1 => by
    have ih0 := quietusref38_SameList.mono_l k
    · intro y0 y1 y2
      unfold quietusref38_SameList.l0
      repeat' first
      | (with_reducible exact ih0 _ _ _)
      | (with_reducible exact LeO.refl _)
      | (with_reducible exact LeO.none _)
      | (with_reducible refine LeO.ite ?_ ?_)
      | (with_reducible refine LeO.bind ?_ (fun _ => ?_))
      | exact ih0 _ _ _
      | exact LeO.none _
      | refine LeO.ite ?_ ?_
      | refine LeO.bind ?_ (fun _ => ?_)
theorem quietusref38_SameList.mono : ∀ a0 a1 k, LeO (quietusref38_SameList.f k a0 a1) (quietusref38_SameList.f (k + 1) a0 a1) := by
  intro a0 a1 k
  have ih0 := quietusref38_SameList.mono_l k
  unfold quietusref38_SameList.f
  repeat' first
      | (with_reducible exact ih0 _ _ _)
      | (with_reducible exact LeO.refl _)
      | (with_reducible exact LeO.none _)
      | (with_reducible refine LeO.ite ?_ ?_)
      | (with_reducible refine LeO.bind ?_ (fun _ => ?_))
      | exact ih0 _ _ _
      | exact LeO.none _
      | refine LeO.ite ?_ ?_
      | refine LeO.bind ?_ (fun _ => ?_)
set_option maxHeartbeats 8000000 in
set_option maxRecDepth 100000 in
theorem quietusref38_SameList.calls (k : Nat) (A0 : Option Addr) (c0 : Nat) (l0 : List Int) (A1 : Option Addr) (c1 : Nat) (l1 : List Int) (r : Bool) (w : World) (hr0 : Kd.C (Kd.int .i64) w A0 l0.length l0) (hc0 : l0.length ≤ c0) (hr1 : Kd.C (Kd.int .i64) w A1 l1.length l1) (hc1 : l1.length ≤ c1) (h : quietusref38_SameList.f k l0 l1 = some r) :
    Calls Try.prog 24 #[.slice A0 l0.length c0, .slice A1 l1.length c1] w fun e w' => e = .returned (.bool r) ∧ Drawn0 w w' := by
  have HR0 := Aside0.mk hr0
  have HC0 := Aside0.mk hc0
  clear hr0 hc0
  have HR1 := Aside0.mk hr1
  have HC1 := Aside0.mk hc1
  clear hr1 hc1
  have H : (if (l0.length : Int) = (l1.length : Int) then (quietusref38_SameList.l0 k l0 l1 0) else (some false)) = some r := h
  clear h
  by_cases c3 : (l0.length : Int) = (l1.length : Int)
  · rw [if_pos c3] at H
    have c3b0 : ((l0.length : Int) == (l1.length : Int)) = true := beq_iff_eq.mpr c3
    have c3b1 : ((l0.length : Int) != (l1.length : Int)) = false := bne_eq_false_iff_eq.mpr c3
    have c3b2 : (l0.length == l1.length) = true := by first | simpa using c3 | (simp at c3 ⊢; omega)
    clear c3
    have H' := Aside0.mk H
    clear H
    go_enter Try.func24, Try.ntmps24
    go_wp2
    repeat (go_quiet (fail); try go_wp2)
    go_loopg [5] k (fun kq v5 w' => ∃ (x5_1 : Int), v5 = .int .i64 x5_1 ∧ Aside0 (quietusref38_SameList.l0 kq l0 l1 x5_1 = some r) ∧ Aside0 (kq ≤ k) ∧ Drawn0 w w')
    case atStart => exact ⟨(0), (by first | rfl | (simp; done) | (simp [*]; done)), H', ⟨Nat.le_refl _⟩, by repeat (first | exact Drawn0.refl _ | apply Drawn0.step)⟩
    case round =>
      clear H'
      try clear c1
      try clear c2
      try clear p2
      try clear c3
      try clear c3b0
      try clear c3b1
      try clear c3b2
      obtain ⟨x5_1, rfl, HA, HK1, ⟨m1, rfl⟩⟩ := hrel
      cases gk with
      | zero => exact absurd HA.out (by simp [quietusref38_SameList.l0])
      | succ k1 =>
        have H := HA.out
        clear HA
        simp only [quietusref38_SameList.l0] at H
        by_cases c4 : x5_1 < (l0.length : Int)
        · rw [if_pos c4] at H
          have c4b0 : decide (x5_1 < (l0.length : Int)) = true := decide_eq_true c4
          clear c4
          by_cases c5 : 0 ≤ x5_1
          · rw [if_pos c5] at H
            have c5b0 : decide (0 ≤ x5_1) = true := decide_eq_true c5
            clear c5
            by_cases c6 : x5_1 < (l1.length : Int)
            · rw [if_pos c6] at H
              have c6b0 : decide (x5_1 < (l1.length : Int)) = true := decide_eq_true c6
              clear c6
              by_cases c7 : (rd l0 x5_1) = (rd l1 x5_1)
              · rw [if_pos c7] at H
                have c7b0 : ((rd l0 x5_1) == (rd l1 x5_1)) = true := beq_iff_eq.mpr c7
                have c7b1 : ((rd l0 x5_1) != (rd l1 x5_1)) = false := bne_eq_false_iff_eq.mpr c7
                clear c7
                have H' := Aside0.mk H
                clear H
                have p152 : 0 ≤ (x5_1 : Int) := of_decide_eq_true (by first | (with_reducible assumption) | assumption)
                have q152 : x5_1 < (l0.length : Int) := of_decide_eq_true (by first | (with_reducible assumption) | assumption)
                obtain ⟨ad152, e152, hx152_0⟩ := Kd.at_int HR0.out x5_1 p152 q152
                cases e152
                replace p152 := eq_true p152
                replace q152 := eq_true q152
                have p153 : 0 ≤ (x5_1 : Int) := of_decide_eq_true (by first | (with_reducible assumption) | assumption)
                have q153 : x5_1 < (l1.length : Int) := of_decide_eq_true (by first | (with_reducible assumption) | assumption)
                obtain ⟨ad153, e153, hx153_0⟩ := Kd.at_int HR1.out x5_1 p153 q153
                cases e153
                replace p153 := eq_true p153
                replace q153 := eq_true q153
                go_wp2
                repeat (go_quiet (fail); try go_wp2)
                go_roundg k1
                case measure => have := HK1.out; omega
                case rel => exact ⟨(wrap64 (x5_1 + 1)), (by first | rfl | (simp; done) | (simp [*]; done)), H', ⟨by have := HK1.out; omega⟩, by repeat (first | exact Drawn0.refl _ | apply Drawn0.step)⟩
              · rw [if_neg c7] at H
                have c7b0 : ((rd l0 x5_1) == (rd l1 x5_1)) = false := beq_eq_false_iff_ne.mpr c7
                have c7b1 : ((rd l0 x5_1) != (rd l1 x5_1)) = true := bne_iff_ne.mpr c7
                obtain rfl := Option.some.inj H
                have p152 : 0 ≤ (x5_1 : Int) := of_decide_eq_true (by first | (with_reducible assumption) | assumption)
                have q152 : x5_1 < (l0.length : Int) := of_decide_eq_true (by first | (with_reducible assumption) | assumption)
                obtain ⟨ad152, e152, hx152_0⟩ := Kd.at_int HR0.out x5_1 p152 q152
                cases e152
                replace p152 := eq_true p152
                replace q152 := eq_true q152
                have p153 : 0 ≤ (x5_1 : Int) := of_decide_eq_true (by first | (with_reducible assumption) | assumption)
                have q153 : x5_1 < (l1.length : Int) := of_decide_eq_true (by first | (with_reducible assumption) | assumption)
                obtain ⟨ad153, e153, hx153_0⟩ := Kd.at_int HR1.out x5_1 p153 q153
                cases e153
                replace p153 := eq_true p153
                replace q153 := eq_true q153
                go_wp2
                repeat (go_quiet (fail); try go_wp2)
                go_ret
                exact ⟨by first | rfl | (simp; done) | (simp [*]; done), by repeat (first | exact Drawn0.refl _ | apply Drawn0.step)⟩
            · rw [if_neg c6] at H
              exact absurd H (by simp)
          · rw [if_neg c5] at H
            exact absurd H (by simp)
        · rw [if_neg c4] at H
          have c4b0 : decide (x5_1 < (l0.length : Int)) = false := decide_eq_false c4
          clear c4
          obtain rfl := Option.some.inj H
          go_wp2
          repeat (go_quiet (fail); try go_wp2)
          go_ret
          exact ⟨by first | rfl | (simp; done) | (simp [*]; done), by repeat (first | exact Drawn0.refl _ | apply Drawn0.step)⟩
  · rw [if_neg c3] at H
    have c3b0 : ((l0.length : Int) == (l1.length : Int)) = false := beq_eq_false_iff_ne.mpr c3
    have c3b1 : ((l0.length : Int) != (l1.length : Int)) = true := bne_iff_ne.mpr c3
    have c3b2 : (l0.length == l1.length) = false := by first | simpa using c3 | (simp at c3 ⊢; omega)
    obtain rfl := Option.some.inj H
    go_enter Try.func24, Try.ntmps24
    go_wp2
    repeat (go_quiet (fail); try go_wp2)
    go_ret
    exact ⟨by first | rfl | (simp; done) | (simp [*]; done), by repeat (first | exact Drawn0.refl _ | apply Drawn0.step)⟩

-- NOT PRINTED: function 23 (quietusref38_Same)

-- NOT PRINTED: function 67 (trace_of)

-- NOT PRINTED: function 25 (trace_At)

-- NOT PRINTED: function 27 (trace_Where)

-- NOT PRINTED: function 29 (trace_Trail)

-- NOT PRINTED: function 31 (trace_Late)

-- NOT PRINTED: function 99 (api_Capture_99)

-- NOT PRINTED: function 91 (api_Capture_91)

end Go.Proofs.Ytlelhmephibfjaa.T

namespace Go.Proofs.Ytlelhmephibfjaa.T
set_option linter.unusedVariables false
set_option linter.unusedSimpArgs false
open Go.RowKit Go.Proofs.YtlelhmephibfjaaW.PrintWords Go.Proofs.YtlelhmephibfjaaW.PrintLast Go.Proofs.YtlelhmephibfjaaW.PrintMore

theorem sameList_loop (l : List Int) (hl : l.length ≤ 1000000) : ∀ (d j : Nat), j + d = l.length → Ev (fun k => quietusref38_SameList.l0 k l l j) true
  | 0, j, hj => by
    refine ev_step1 fun k => ?_
    simp only [quietusref38_SameList.l0]
    rw [if_neg (by omega)]
  | d + 1, j, hj => by
    refine Ev.step (fun k => ?_) (sameList_loop l hl d (j + 1) (by omega))
    simp only [quietusref38_SameList.l0]
    rw [if_pos (by omega), if_pos (by omega), if_pos (by omega), if_pos trivial, w64 _ (by omega) (by omega)]
    rfl
theorem sameList_r (l : List Int) (hl : l.length ≤ 1000000) : Ev (fun k => quietusref38_SameList.f k l l) true := by
  have h : (fun k => quietusref38_SameList.f k l l) = (fun k => quietusref38_SameList.l0 k l l (0 : Nat)) := by
    funext k; unfold quietusref38_SameList.f; rw [if_pos rfl]; rfl
  rw [h]
  exact sameList_loop l hl l.length 0 (by omega)

set_option maxHeartbeats 16000000 in
set_option maxRecDepth 100000 in
theorem same_calls (A B : Option Addr) (l : List S25) (c d : Nat) (w : World) (hr : Kd.C k25 w A l.length l) (hs : Kd.C k25 w B l.length l) (hc : l.length ≤ c) (hd : l.length ≤ d) (hl : l.length ≤ 1000) (hof : ∀ x ∈ l, x.f3.length ≤ 1000) :
    Calls Try.prog 23 #[.slice A l.length c, .slice B l.length d] w fun e w' => e = .returned (.bool true) ∧ Below w.heap.size w w' := by
  have hu25 := Try.underlying25
  have HR := Aside0.mk hr
  have HS := Aside0.mk hs
  have HOF := Aside0.mk hof
  clear hr hs hof
  go_enter Try.func23, Try.ntmps23
  go_wp2
  go_loopw [5] (fun v wr => ∃ j : Nat, v = .int .i64 j ∧ j ≤ l.length ∧ Aside0 (Below w.heap.size w wr)) (fun v _ => l.length - (intOf v).toNat)
  case atStart => exact ⟨0, rfl, by omega, ⟨Below.refl _ _⟩⟩
  case round =>
    obtain ⟨j, rfl, hj, HB⟩ := hrel
    by_cases hlt : j < l.length
    · obtain ⟨ad, A3, c3, e1, x0, x1, x2, x3, x4, x5, x6, x7, x8, x9, hl3, hi3⟩ := at_T25 (Kd.C_below HR.out HB.out) (j : Int) (by omega) (by omega)
      subst e1
      obtain ⟨bd, B3, d3, e2, y0, y1, y2, y3, y4, y5, y6, y7, y8, y9, kl3, ki3⟩ := at_T25 (Kd.C_below HS.out HB.out) (j : Int) (by omega) (by omega)
      subst e2
      rw [rd25_get l j hlt] at x0 x1 x2 x3 x4 x5 x6 x7 x8 x9 hl3 hi3 y0 y1 y2 y3 y4 y5 y6 y7 y8 y9 kl3 ki3
      rw [Int.toNat_natCast] at x0 x1 x2 x3 x4 x5 x6 x7 x8 x9 y0 y1 y2 y3 y4 y5 y6 y7 y8 y9
      have HL3 := Aside0.mk hl3
      have HI3 := Aside0.mk hi3
      have KL3 := Aside0.mk kl3
      have KI3 := Aside0.mk ki3
      have hx : (l[j]).f3.length ≤ 1000 := HOF.out _ (List.getElem_mem hlt)
      obtain ⟨kf, hkf⟩ := (sameList_r l[j].f3 (by omega)).rounds
      have HKF := Aside0.mk hkf
      clear hl3 hi3 kl3 ki3 hkf
      generalize l[j] = a at *
      replace y0 := fun o => keep_alloc (o := o) y0
      replace y1 := fun o => keep_alloc (o := o) y1
      replace y2 := fun o => keep_alloc (o := o) y2
      replace y3 := fun o => keep_alloc (o := o) y3
      replace y4 := fun o => keep_alloc (o := o) y4
      replace y5 := fun o => keep_alloc (o := o) y5
      replace y6 := fun o => keep_alloc (o := o) y6
      replace y7 := fun o => keep_alloc (o := o) y7
      replace y8 := fun o => keep_alloc (o := o) y8
      replace y9 := fun o => keep_alloc (o := o) y9
      go_wp2_with fail
      clear x0 x1 x2 x3 x4 x5 x6 x7 x8 x9 y0 y1 y2 y3 y4 y5 y6 y7 y8 y9
      refine (quietusref38_SameList.calls kf _ c3 a.f3 _ d3 a.f3 _ _ (Kd.C_alloc (Kd.C_alloc HI3.out _) _) HL3.out (Kd.C_alloc (Kd.C_alloc KI3.out _) _) KL3.out HKF.out).mono ?_
      rintro e w1 ⟨rfl, hb⟩
      have K1 := Aside0.mk (blk_below (blk_alloc (blk_new wr _) _) hb.below)
      have K2 := Aside0.mk (blk_below (blk_new (wr.alloc _) _) hb.below)
      rw [World.size_alloc] at K2
      have HB1 : Aside0 (Below w.heap.size w w1) := ⟨below_step (by (repeat (first | with_reducible exact HB.out | with_reducible exact Below.refl _ _ | with_reducible refine below_drew ?_ | with_reducible refine pw_below_drewN ?_ _ | with_reducible refine below_alloc ?_ _))) hb.below⟩
      clear hb HKF HB
      have k1 := blk_cell K1.out
      have k2 := blk_cell K2.out
      go_wp2
      go_roundw
      case rel => exact ⟨j + 1, by go_num, by omega, HB1⟩
      case measure => simp [intOf]; omega
    · have hje : j = l.length := by omega
      subst hje
      go_wp2
      go_ret
      exact ⟨rfl, HB.out⟩
end Go.Proofs.Ytlelhmephibfjaa.T

namespace Go.Proofs.Ytlelhmephibfjaa.T
set_option linter.unusedVariables false
set_option linter.unusedSimpArgs false
open Go.RowKit Go.Proofs.YtlelhmephibfjaaW.PrintWords Go.Proofs.YtlelhmephibfjaaW.PrintLast Go.Proofs.YtlelhmephibfjaaW.PrintMore

instance : DecidableEq S25 := fun a b => decidable_of_iff (a.f0 = b.f0 ∧ a.f1 = b.f1 ∧ a.f2 = b.f2 ∧ a.f3 = b.f3 ∧ a.f4 = b.f4 ∧ a.f5 = b.f5 ∧ a.f6 = b.f6 ∧ a.f7 = b.f7 ∧ a.f8 = b.f8 ∧ a.f9 = b.f9)
  ⟨fun h => by cases a; cases b; simp at h; simp [h], fun h => by subst h; simp⟩
def exL : List S25 := [⟨1, 1, 7, [], 0, -1, 10, 12, -1, 0⟩, ⟨2, 2, 7, [1], 1, 0, 11, 1000001, -1, 0⟩, ⟨3, 2, 7, [2], 2, 0, 20, 30, -1, 0⟩, ⟨4, 3, 7, [], 0, 0, 10, 1000001, 0, 0⟩, ⟨5, 3, 7, [], 1, 0, 10, 25, 1, 0⟩, ⟨6, 4, 7, [2], 3, 0, 11, 1000001, -1, 0⟩]
theorem ex_f : quietuslaw38_example.f = some exL := rfl
theorem ex_of : ∀ x ∈ exL, x.f3.length ≤ 1000 := by decide
theorem ex_check : checkS exL = 0 := by decide +kernel
theorem ex_one : checkS [⟨2, 2, 7, [1], 1, 0, 11, 1000001, -1, 0⟩] = 8 := by decide +kernel
theorem ex_at : AtS exL 7 11 = ([1, 2, 4, 5, 6], 0) := by decide +kernel
theorem ex_where : WhereS exL 7 11 = (11, 0) := by decide +kernel
theorem ex_trail : TrailS exL 7 = (15, 0) := by decide +kernel
theorem ex_late : LateS exL 7 28 = ([2, 4], 0) := by decide +kernel
theorem ex_has : trace_Has.f 10 exL 0 [⟨1, 24⟩] = some ([2, 5], 0) := by decide +kernel
theorem ex_told1 : ToldS exL 7 2 0 [⟨1, 24⟩, ⟨0, 50⟩] = (true, 0) := by decide +kernel
theorem ex_told2 : ToldS exL 7 2 0 [⟨1, 25⟩, ⟨0, 50⟩] = (false, 0) := by decide +kernel
theorem ex_told3 : ToldS exL 7 2 0 [⟨0, 11⟩, ⟨0, 11⟩] = (true, 0) := by decide +kernel
theorem ex_end1 : EndS exL 2 19 = ([], 1) := by decide +kernel
def exE : List S25 := [⟨1, 1, 7, [], 0, -1, 10, 12, -1, 0⟩, ⟨2, 2, 7, [1], 1, 0, 11, 21, -1, 0⟩, ⟨3, 2, 7, [2], 2, 0, 20, 30, -1, 0⟩, ⟨4, 3, 7, [], 0, 0, 10, 1000001, 0, 0⟩, ⟨5, 3, 7, [], 1, 0, 10, 25, 1, 0⟩, ⟨6, 4, 7, [2], 3, 0, 11, 1000001, -1, 0⟩]
theorem ex_end2 : EndS exL 2 21 = (exE, 0) := by decide +kernel
theorem ex_end3 : EndS exL 1 40 = ([], 4) := by decide +kernel
def exP : List S25 := [⟨1, 1, 7, [], 0, -1, 10, 12, -1, 0⟩, ⟨2, 2, 7, [1], 1, 0, 11, 31, -1, 0⟩, ⟨3, 2, 7, [2], 2, 0, 20, 30, -1, 0⟩, ⟨4, 3, 7, [], 0, 0, 10, 31, 0, 0⟩, ⟨5, 3, 7, [], 1, 0, 10, 25, 1, 0⟩, ⟨6, 4, 7, [2], 3, 0, 11, 1000001, -1, 0⟩]
theorem ex_purge : PurgeS exL 7 31 = (exP, 0) := by decide +kernel
theorem ex_pof : ∀ x ∈ exP, x.f3.length ≤ 1000 := by decide
theorem ex_none : LateS exP 7 31 = ([], 0) := by decide +kernel
theorem ex_add1 : trace_Add.f (exL.take 2) 3 2 7 [2] 2 0 20 30 (-1) 0 = some (exL.take 3, 0) := by decide +kernel
theorem ex_add2 : trace_Add.f exL 7 2 7 [3] 0 0 30 40 (-1) 0 = some ([], 4) := by decide +kernel

theorem fol_eval (S : Nat → List Int) (n at_ : Nat) (T : List Nat) (R : List Bool) (hF : Fol S at_ (S at_) (List.replicate n false) R) (h1 : ∀ x ∈ S at_, 0 ≤ x ∧ x.toNat ∈ T) (h2 : ∀ t ∈ T, ∀ x ∈ S t, 0 ≤ x ∧ x.toNat ∈ T)
    (h3 : ∀ j, j < T.length → ((T.getD j 0 : Nat) : Int) ∈ S at_ ∨ ∃ k, k < j ∧ ((T.getD j 0 : Nat) : Int) ∈ S (T.getD k 0)) : ∀ i, setAt R i = decide (i ∈ T) := by
  have hrep : ∀ i, setAt (List.replicate n false) i = false := fun i => by
    unfold setAt; rw [List.getD_eq_getElem?_getD, List.getElem?_replicate]; split <;> rfl
  have hin : ∀ j, j < T.length → setAt R (T.getD j 0) = true := by
    intro j
    induction j using Nat.strongRecOn with
    | _ j ih =>
      intro hj
      rcases h3 j hj with h | ⟨k, hk, h⟩
      · exact hF.step _ h
      · exact (hF.new _ (ih k hk (by omega)) (hrep _)).2 _ h
  have hway : ∀ i k, Way S i k → ((∀ x ∈ S i, 0 ≤ x ∧ x.toNat ∈ T)) → k ∈ T := by
    intro i k h
    induction h with
    | one h => intro h4; have := h4 _ h; simpa using this.2
    | more h _ ih => intro h4; have := h4 _ h; exact ih (fun x hx => h2 _ (by simpa using this.2) x hx)
  intro i
  by_cases hi : i ∈ T
  · rw [decide_eq_true hi]
    obtain ⟨j, hj, rfl⟩ := List.mem_iff_getElem.1 hi
    have := hin j hj
    rwa [show T.getD j 0 = T[j] by simp [List.getD_eq_getElem?_getD, List.getElem?_eq_getElem hj]] at this
  · rw [decide_eq_false hi]
    cases h : setAt R i with
    | false => rfl
    | true => exact absurd (hway at_ i (hF.new i h (hrep i)).1 h1) hi
theorem fol_list {S : Nat → List Int} {n at_ : Nat} {T : List Nat} {R : List Bool} (hl : R.length = n) (h : ∀ i, setAt R i = decide (i ∈ T)) : R = (List.range n).map (fun i => decide (i ∈ T)) := by
  apply List.ext_getElem
  · simp [hl]
  · intro i h1 h2
    have := h i
    unfold setAt at this
    rw [List.getD_eq_getElem?_getD, List.getElem?_eq_getElem h1] at this
    simpa using this
theorem ex_below {out : List Int} {err : Int} (h : ClosRel exL (downS exL) 1 out err) : out = [2, 3, 6] ∧ err = 0 := by
  rcases h with ⟨h, _⟩ | ⟨_, h, _⟩ | ⟨_, _, rfl, R, hF, rfl⟩
  · exact absurd ex_check h
  · exact absurd h (by decide +kernel)
  · have e : (findS exL 1).toNat = 0 := by decide +kernel
    rw [e] at hF
    have hl := hF.len
    have := fol_eval (downS exL) 6 0 [1, 2, 5] R hF (by decide +kernel) (by decide +kernel) (by decide +kernel)
    rw [fol_list (S := downS exL) (at_ := 0) (T := [1, 2, 5]) (n := 6) (by rw [hl]; rfl) this]
    exact ⟨by decide +kernel, rfl⟩
theorem ex_above {out : List Int} {err : Int} (h : ClosRel exL (upS exL) 3 out err) : out = [1, 2] ∧ err = 0 := by
  rcases h with ⟨h, _⟩ | ⟨_, h, _⟩ | ⟨_, _, rfl, R, hF, rfl⟩
  · exact absurd ex_check h
  · exact absurd h (by decide +kernel)
  · have e : (findS exL 3).toNat = 2 := by decide +kernel
    rw [e] at hF
    have hl := hF.len
    have := fol_eval (upS exL) 6 2 [1, 0] R hF (by decide +kernel) (by decide +kernel) (by decide +kernel)
    rw [fol_list (S := upS exL) (at_ := 2) (T := [1, 0]) (n := 6) (by rw [hl]; rfl) this]
    exact ⟨by decide +kernel, rfl⟩
end Go.Proofs.Ytlelhmephibfjaa.T
