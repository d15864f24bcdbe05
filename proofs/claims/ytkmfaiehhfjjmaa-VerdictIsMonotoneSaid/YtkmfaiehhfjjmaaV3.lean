/- The machine side of the functions that this claim reaches: each Go function as a plain Lean function with its proof, written by a program of this session over the kit's printer, with contracts proved by hand. -/
import Derived.Test.YtkmfaiehhfjjmaaV0
import Derived.Test.YtkmfaiehhfjjmaaV2
namespace Go.Proofs.Ytkmfaiehhfjjmaa.V
open Go.RowKit Go.Proofs.YtkmfaiehhfjjmaaW.PrintWords Go.Proofs.YtkmfaiehhfjjmaaW.PrintLast Go.Proofs.YtkmfaiehhfjjmaaW.PrintMore
attribute [local go_sem] max2_int min2_int max_two min_two max_three min_three max_four min_four   -- for this text's walks alone
set_option linter.unusedVariables false
set_option linter.unusedSimpArgs false

/-! ### verdict_Enough: function 8 -/
mutual
def verdict_Enough.j0 : Nat → Int → Int → Int → Int → Int → Bool → Option (Bool × Int)
  | 0, _, _, _, _, _, _ => none
  | k + 1, x0, x3, x4, x12, x13, x29 => if x29 = true then (some (false, 1)) else (if x0 > 30 then (some (false, 2)) else (if x3 > 4 then (some (false, 2)) else (if x4 > 100000 then (some (false, 2)) else (verdict_Enough.l0 k x12 x13 x3 0 0 (IntKind.u64.wrap (x4)) 0 1))))
def verdict_Enough.l0 : Nat → Int → Int → Int → Int → Int → Int → Int → Int → Option (Bool × Int)
  | 0, _, _, _, _, _, _, _, _ => none
  | k + 1, x12, x13, x51, x52, x112000, x112001, x113000, x113001 => if x52 < x51 then ((verdict_wide_times.f x112000 x112001 x12).bind fun bt113 => ((verdict_wide_times.f x113000 x113001 x13).bind fun bt115 => (verdict_Enough.l0 k x12 x13 x51 (wrap64 (x52 + 1)) bt113.1 bt113.2 bt115.1 bt115.2))) else ((verdict_wide_most.f x112000 x112001 x113000 x113001).bind fun t117 => (some (t117, 0)))
end
def verdict_Enough.f (k : Nat) (a0 : Int) (a1 : Int) (a2 : Int) (a3 : Int) (a4 : Int) : Option (Bool × Int) := (verdict_Miss.f k a0 a1 a2).bind fun bt108 => (if bt108.2.2 = 0 then (if a3 < 1 then (verdict_Enough.j0 k a0 a3 a4 bt108.1 bt108.2.1 true) else (verdict_Enough.j0 k a0 a3 a4 bt108.1 bt108.2.1 (decide (a4 < 1)))) else (some (false, bt108.2.2)))
theorem verdict_Enough.mono_l : ∀ k, (∀ y0 y1 y2 y3 y4 y5, LeO (verdict_Enough.j0 k y0 y1 y2 y3 y4 y5) (verdict_Enough.j0 (k + 1) y0 y1 y2 y3 y4 y5)) ∧ (∀ y0 y1 y2 y3 y4 y5 y6 y7, LeO (verdict_Enough.l0 k y0 y1 y2 y3 y4 y5 y6 y7) (verdict_Enough.l0 (k + 1) y0 y1 y2 y3 y4 y5 y6 y7))
  | 0 => ⟨fun _ _ _ _ _ _ r h => by simp [verdict_Enough.j0] at h, fun _ _ _ _ _ _ _ _ r h => by simp [verdict_Enough.l0] at h⟩
  | k + 1 => by
    obtain ⟨ih0, ih1⟩ := verdict_Enough.mono_l k
    refine ⟨?_, ?_⟩
    · intro y0 y1 y2 y3 y4 y5
      unfold verdict_Enough.j0
      repeat' first
      | (with_reducible exact ih0 _ _ _ _ _ _)
      | (with_reducible exact ih1 _ _ _ _ _ _ _ _)
      | (with_reducible exact verdict_Miss.mono _ _ _ _)
      | (with_reducible exact LeO.refl _)
      | (with_reducible exact LeO.none _)
      | (with_reducible refine LeO.ite ?_ ?_)
      | (with_reducible refine LeO.bind ?_ (fun _ => ?_))
      | exact ih0 _ _ _ _ _ _
      | exact ih1 _ _ _ _ _ _ _ _
      | exact verdict_Miss.mono _ _ _ _
      | exact LeO.none _
      | refine LeO.ite ?_ ?_
      | refine LeO.bind ?_ (fun _ => ?_)
    · intro y0 y1 y2 y3 y4 y5 y6 y7
      unfold verdict_Enough.l0
      repeat' first
      | (with_reducible exact ih0 _ _ _ _ _ _)
      | (with_reducible exact ih1 _ _ _ _ _ _ _ _)
      | (with_reducible exact verdict_Miss.mono _ _ _ _)
      | (with_reducible exact LeO.refl _)
      | (with_reducible exact LeO.none _)
      | (with_reducible refine LeO.ite ?_ ?_)
      | (with_reducible refine LeO.bind ?_ (fun _ => ?_))
      | exact ih0 _ _ _ _ _ _
      | exact ih1 _ _ _ _ _ _ _ _
      | exact verdict_Miss.mono _ _ _ _
      | exact LeO.none _
      | refine LeO.ite ?_ ?_
      | refine LeO.bind ?_ (fun _ => ?_)
theorem verdict_Enough.mono : ∀ a0 a1 a2 a3 a4 k, LeO (verdict_Enough.f k a0 a1 a2 a3 a4) (verdict_Enough.f (k + 1) a0 a1 a2 a3 a4) := by
  intro a0 a1 a2 a3 a4 k
  obtain ⟨ih0, ih1⟩ := verdict_Enough.mono_l k
  unfold verdict_Enough.f
  repeat' first
      | (with_reducible exact ih0 _ _ _ _ _ _)
      | (with_reducible exact ih1 _ _ _ _ _ _ _ _)
      | (with_reducible exact verdict_Miss.mono _ _ _ _)
      | (with_reducible exact LeO.refl _)
      | (with_reducible exact LeO.none _)
      | (with_reducible refine LeO.ite ?_ ?_)
      | (with_reducible refine LeO.bind ?_ (fun _ => ?_))
      | exact ih0 _ _ _ _ _ _
      | exact ih1 _ _ _ _ _ _ _ _
      | exact verdict_Miss.mono _ _ _ _
      | exact LeO.none _
      | refine LeO.ite ?_ ?_
      | refine LeO.bind ?_ (fun _ => ?_)
def verdict_Enough.T11 : Bool × List (List Nat × List Nat) := (true, [([], []), ([], []), ([0, 1], [0, 1]), ([], []), ([], []), ([3, 4, 2], [3, 4]), ([2, 5, 0, 1, 2], [2]), ([5, 6, 0, 1, 2, 3, 4, 5, 6], [5])])
def verdict_Enough.B11 : List Nat := [0, 0, 3, 0, 0, 31, 63, 127]
theorem verdict_Enough.tab11 : rtab .any (opsOf Try.f8 11) = verdict_Enough.T11 := by kernel_rfl
theorem verdict_Enough.bits11 : waitsOk verdict_Enough.T11.2 verdict_Enough.B11 = true := by kernel_rfl
set_option maxHeartbeats 8000000 in
set_option maxRecDepth 100000 in
theorem verdict_Enough.calls (k : Nat) (a0 : Int) (a1 : Int) (a2 : Int) (a3 : Int) (a4 : Int) (r1 : Bool) (r2 : Int) (w : World) (h : verdict_Enough.f k a0 a1 a2 a3 a4 = some (r1, r2)) :
    Calls Try.prog 8 #[.int .i64 a0, .int .i64 a1, .int .i64 a2, .int .i64 a3, .int .i64 a4] w fun e w' => e = .returned (.tuple #[.bool r1, .int .i64 r2]) ∧ Below w.heap.size w w' := by
  have hu55 := Try.underlying55
  have HB := Aside0.mk (Below.refl w.heap.size w)
  have H : ((verdict_Miss.f k a0 a1 a2).bind fun bt108 => (if bt108.2.2 = 0 then (if a3 < 1 then (verdict_Enough.j0 k a0 a3 a4 bt108.1 bt108.2.1 true) else (verdict_Enough.j0 k a0 a3 a4 bt108.1 bt108.2.1 (decide (a4 < 1)))) else (some (false, bt108.2.2)))) = some (r1, r2) := h
  clear h
  replace H := Option.bind_eq_some_iff.mp H
  obtain ⟨⟨t108, t109, t110⟩, A60, H⟩ := H
  replace H : (if t110 = 0 then (if a3 < 1 then (verdict_Enough.j0 k a0 a3 a4 t108 t109 true) else (verdict_Enough.j0 k a0 a3 a4 t108 t109 (decide (a4 < 1)))) else (some (false, t110))) = some (r1, r2) := H
  have A6 := Aside0.mk A60
  clear A60
  by_cases c7 : t110 = 0
  · rw [if_pos c7] at H
    have c7b0 : (t110 == 0) = true := beq_iff_eq.mpr c7
    have c7b1 : (t110 != 0) = false := bne_eq_false_iff_eq.mpr c7
    clear c7
    have HC8 := Aside0.mk H
    clear H
    go_enter Try.func8, Try.ntmps8
    go_upto_region 4 with (first | ((with_reducible refine gate_callee (f := 7) rfl ?_); refine goesL_ (some 21) rfl rfl Try.func7 (by kernel_rfl) rfl #[.int .i64 a0, .int .i64 a1, .int .i64 a2] rfl (by (try simp only [List.map_toArray, List.map_cons, List.map_nil]); first | done | rfl | (simp only [List.length_drop, List.length_take]; rfl)) ?_; (with_reducible refine (verdict_Miss.calls k a0 a1 a2 t108 t109 t110 _ A6.out).mono ?_); rintro e w9 ⟨rfl, hb⟩; refine ⟨_, rfl, ?_⟩; have n0_ := Aside0.mk (below_step (by repeat (first | (with_reducible first | exact HB.out | apply below_alloc | apply pw_below_drewN | apply below_drew1) | exact HB.out)) hb); clear HB; have HB := n0_; clear n0_; (try clear hb); (try clear hb2); (try clear hk); (try clear hi)))
    (try simp only [Act.put, List.setIfInBounds_toArray, List.set_cons_zero, List.set_cons_succ])
    go_cut [29] (fun v29 wc => ∃ (kq : Nat) (x29_7 : Bool), v29 = .bool x29_7 ∧ Aside0 (verdict_Enough.j0 kq a0 a3 a4 t108 t109 x29_7 = some (r1, r2)) ∧ Aside0 (kq ≤ k) ∧ Aside0 (Below w.heap.size w wc))
    case first =>
      have H := HC8.out
      clear HC8
      by_cases c10 : a3 < 1
      · rw [if_pos c10] at H
        have c10b0 : decide (a3 < 1) = true := decide_eq_true c10
        clear c10
        (first | rw [c10b0] | (simp only [i64_w, i32_w]; rw [c10b0]) | skip)
        have H' := Aside0.mk H
        clear H
        go_wp2
        go_meet
        case rel => exact ⟨_, (true), (by first | rfl | (simp; done) | (simp [*]; done)), H', ⟨by first | omega | exact Nat.le_refl _⟩, ⟨by repeat (first | (with_reducible first | exact HB.out | apply below_alloc | apply pw_below_drewN | apply below_drew1) | exact HB.out)⟩⟩
      · rw [if_neg c10] at H
        have c10b0 : decide (a3 < 1) = false := decide_eq_false c10
        clear c10
        (first | rw [c10b0] | (simp only [i64_w, i32_w]; rw [c10b0]) | skip)
        have H' := Aside0.mk H
        clear H
        go_wp2
        go_meet
        case rel => exact ⟨_, (decide (a4 < 1)), (by first | rfl | (simp; done) | (simp [*]; done)), H', ⟨by first | omega | exact Nat.le_refl _⟩, ⟨by repeat (first | (with_reducible first | exact HB.out | apply below_alloc | apply pw_below_drewN | apply below_drew1) | exact HB.out)⟩⟩
    case rest =>
      clear HC8
      try clear c1
      try clear p2
      try clear c7
      try clear c7b0
      try clear c7b1
      try clear c8
      try clear c10
      try clear c10b0
      obtain ⟨kq, x29_7, rfl, HA, HJ7, HB⟩ := hcut
      cases kq with
      | zero => exact absurd HA.out (by simp [verdict_Enough.j0])
      | succ kj7 =>
        have H := HA.out
        clear HA
        simp only [verdict_Enough.j0] at H
        by_cases c11 : x29_7 = true
        · subst c11
          have H1 : (some (false, 1)) = some (r1, r2) := by rw [if_pos rfl] at H; exact H
          clear H
          have H := H1
          clear H1
          simp only [Option.some.injEq, Prod.mk.injEq] at H
          obtain ⟨rfl, rfl⟩ := H
          go_wp2
          go_ret2
          exact ⟨by first | rfl | (simp [errW_none, errW_some] <;> rfl) | (simp [*, errW_none, errW_some] <;> rfl), by repeat (first | (with_reducible first | exact HB.out | apply below_alloc | apply pw_below_drewN | apply below_drew1) | exact HB.out)⟩
        · replace c11 := Bool.eq_false_iff.mpr c11
          subst c11
          have H1 : (if a0 > 30 then (some (false, 2)) else (if a3 > 4 then (some (false, 2)) else (if a4 > 100000 then (some (false, 2)) else (verdict_Enough.l0 kj7 t108 t109 a3 0 0 (IntKind.u64.wrap (a4)) 0 1)))) = some (r1, r2) := by rw [if_neg (show ¬ (false = true) by decide)] at H; exact H
          clear H
          have H := H1
          clear H1
          by_cases c12 : a0 > 30
          · rw [if_pos c12] at H
            have c12b0 : decide (30 < a0) = true := decide_eq_true c12
            clear c12
            simp only [Option.some.injEq, Prod.mk.injEq] at H
            obtain ⟨rfl, rfl⟩ := H
            go_wp2
            go_ret2
            exact ⟨by first | rfl | (simp [errW_none, errW_some] <;> rfl) | (simp [*, errW_none, errW_some] <;> rfl), by repeat (first | (with_reducible first | exact HB.out | apply below_alloc | apply pw_below_drewN | apply below_drew1) | exact HB.out)⟩
          · rw [if_neg c12] at H
            have c12b0 : decide (30 < a0) = false := decide_eq_false c12
            clear c12
            by_cases c13 : a3 > 4
            · rw [if_pos c13] at H
              have c13b0 : decide (4 < a3) = true := decide_eq_true c13
              clear c13
              simp only [Option.some.injEq, Prod.mk.injEq] at H
              obtain ⟨rfl, rfl⟩ := H
              go_wp2
              go_ret2
              exact ⟨by first | rfl | (simp [errW_none, errW_some] <;> rfl) | (simp [*, errW_none, errW_some] <;> rfl), by repeat (first | (with_reducible first | exact HB.out | apply below_alloc | apply pw_below_drewN | apply below_drew1) | exact HB.out)⟩
            · rw [if_neg c13] at H
              have c13b0 : decide (4 < a3) = false := decide_eq_false c13
              clear c13
              by_cases c14 : a4 > 100000
              · rw [if_pos c14] at H
                have c14b0 : decide (100000 < a4) = true := decide_eq_true c14
                clear c14
                simp only [Option.some.injEq, Prod.mk.injEq] at H
                obtain ⟨rfl, rfl⟩ := H
                go_wp2
                go_ret2
                exact ⟨by first | rfl | (simp [errW_none, errW_some] <;> rfl) | (simp [*, errW_none, errW_some] <;> rfl), by repeat (first | (with_reducible first | exact HB.out | apply below_alloc | apply pw_below_drewN | apply below_drew1) | exact HB.out)⟩
              · rw [if_neg c14] at H
                have c14b0 : decide (100000 < a4) = false := decide_eq_false c14
                clear c14
                have H' := Aside0.mk H
                clear H
                go_wp2_with (first | ((with_reducible refine gate_dst (N := 15) rfl ?_); refine box_event ?hg (N := 15) ?hd (cs := #[.int .u64 0, .int .u64 0]) (t := 55) ?hr ?_; (case hd => rfl); (case hg => rfl); (case hr => first | (go_simp; done) | (go_simp; rfl)); intro gb111 hg w15 hbox hb; have n0_ := Aside0.mk (below_step (by repeat (first | (with_reducible first | exact HB.out | apply below_alloc | apply pw_below_drewN | apply below_drew1) | exact HB.out)) hb); have n1_ := Aside0.mk (hbox); have n2_ := Aside0.mk ((by rw [hg]; exact (below_size (by repeat (first | (with_reducible first | exact HB.out | apply below_alloc | apply pw_below_drewN | apply below_drew1) | exact HB.out))) : w.heap.size ≤ gb111)); have n3_ := Aside0.mk ((by rw [hg]; exact (below_size (by repeat (first | (with_reducible first | exact HB.out | apply below_alloc | apply pw_below_drewN | apply below_drew1) | exact HB.out))) : w.heap.size ≤ gb111)); clear HB; have HB := n0_; have BK111 := n1_; have GW111 := n2_; have GE111 := n3_; clear n0_ n1_ n2_ n3_; clear hb hbox hg) | ((with_reducible refine gate_dst (N := 16) rfl ?_); refine box_event ?hg (N := 16) ?hd (cs := #[.int .u64 0, .int .u64 0]) (t := 55) ?hr ?_; (case hd => rfl); (case hg => rfl); (case hr => first | (go_simp; done) | (go_simp; rfl)); intro gb112 hg w16 hbox hb; have n0_ := Aside0.mk (blk_below (g := gb111) (o := .cells #[.int .u64 0, .int .u64 0] 55 (0, 0)) (by (with_reducible repeat (first | refine blk_drewN ?_ _ | refine blk_drew ?_ | refine blk_alloc ?_ _)); exact BK111.out) hb); have n1_ := Aside0.mk (below_step (by repeat (first | (with_reducible first | exact HB.out | apply below_alloc | apply pw_below_drewN | apply below_drew1 | refine below_set ?_ GE111.out) | exact HB.out)) hb); have n2_ := Aside0.mk (hbox); have n3_ := Aside0.mk ((by rw [hg]; exact (below_size (by repeat (first | (with_reducible first | exact HB.out | apply below_alloc | apply pw_below_drewN | apply below_drew1 | refine below_set ?_ GE111.out) | exact HB.out))) : w.heap.size ≤ gb112)); have n4_ := Aside0.mk ((by rw [hg]; exact (below_size (by repeat (first | (with_reducible first | exact HB.out | apply below_alloc | apply pw_below_drewN | apply below_drew1 | refine below_set ?_ GE111.out) | exact HB.out))) : w.heap.size ≤ gb112)); have n5_ := Aside0.mk ((by rw [hg]; exact Nat.ne_of_lt (blk_lt (g := gb111) (o := .cells #[.int .u64 0, .int .u64 0] 55 (0, 0)) (by (with_reducible repeat (first | refine blk_drewN ?_ _ | refine blk_drew ?_ | refine blk_alloc ?_ _)); exact BK111.out)) : gb111 ≠ gb112)); have n6_ := Aside0.mk ((by rw [hg]; exact Nat.ne_of_gt (blk_lt (g := gb111) (o := .cells #[.int .u64 0, .int .u64 0] 55 (0, 0)) (by (with_reducible repeat (first | refine blk_drewN ?_ _ | refine blk_drew ?_ | refine blk_alloc ?_ _)); exact BK111.out)) : gb112 ≠ gb111)); clear BK111; clear HB; have BK111 := n0_; have HB := n1_; have BK112 := n2_; have GW112 := n3_; have GE112 := n4_; have NB111_112 := n5_; have NB112_111 := n6_; clear n0_ n1_ n2_ n3_ n4_ n5_ n6_; clear hb hbox hg; have hnb17 := NB111_112.out; have hnc17 := NB112_111.out; have hcz18_0 : w16.cell? ⟨gb111, 0, none⟩ = some (.int .u64 0) := (blk_cell BK111.out 0).trans rfl; have hcz18_1 : w16.cell? ⟨gb111, 1, none⟩ = some (.int .u64 0) := (blk_cell BK111.out 1).trans rfl; have hfz18_0 := blk_frozen BK111.out 0; have hfz18_1 := blk_frozen BK111.out 1; have hcz19_0 : w16.cell? ⟨gb112, 0, none⟩ = some (.int .u64 0) := (blk_cell BK112.out 0).trans rfl; have hcz19_1 : w16.cell? ⟨gb112, 1, none⟩ = some (.int .u64 0) := (blk_cell BK112.out 1).trans rfl; have hfz19_0 := blk_frozen BK112.out 0; have hfz19_1 := blk_frozen BK112.out 1))
                go_loopg [52] kj7 (fun kq v52 w' => ∃ (x52_2 : Int) (x112000_2 : Int) (x112001_2 : Int) (x113000_2 : Int) (x113001_2 : Int), v52 = .int .i64 x52_2 ∧ Aside0 (verdict_Enough.l0 kq t108 t109 a3 x52_2 x112000_2 x112001_2 x113000_2 x113001_2 = some (r1, r2)) ∧ Aside0 (kq ≤ kj7) ∧ Aside0 (w'.heap[gb111]? = some (.cells #[.int .u64 x112000_2, .int .u64 x112001_2] 55 (0, 0))) ∧ Aside0 (w'.heap[gb112]? = some (.cells #[.int .u64 x113000_2, .int .u64 x113001_2] 55 (0, 0))) ∧ Aside0 (Below w.heap.size w w'))
                case atStart => exact ⟨(0), (0), (IntKind.u64.wrap (a4)), (0), (1), (by first | rfl | (simp; done) | (simp [*]; done)), H', ⟨Nat.le_refl _⟩, ⟨by (with_reducible repeat (first | refine blk_drewN ?_ _ | refine blk_drew ?_ | refine blk_alloc ?_ _)); refine blk_far ?_ NB111_112.out _; (with_reducible repeat (first | refine blk_drewN ?_ _ | refine blk_drew ?_ | refine blk_alloc ?_ _)); refine blk_far ?_ NB111_112.out _; (with_reducible repeat (first | refine blk_drewN ?_ _ | refine blk_drew ?_ | refine blk_alloc ?_ _)); refine blk_put (cs := #[.int .u64 0, .int .u64 0]) ?_ 1 _ rfl; (with_reducible repeat (first | refine blk_drewN ?_ _ | refine blk_drew ?_ | refine blk_alloc ?_ _)); refine blk_put (cs := #[.int .u64 0, .int .u64 0]) ?_ 0 _ rfl; (with_reducible repeat (first | refine blk_drewN ?_ _ | refine blk_drew ?_ | refine blk_alloc ?_ _)); exact BK111.out⟩, ⟨by (with_reducible repeat (first | refine blk_drewN ?_ _ | refine blk_drew ?_ | refine blk_alloc ?_ _)); refine blk_put (cs := #[.int .u64 0, .int .u64 0]) ?_ 1 _ rfl; (with_reducible repeat (first | refine blk_drewN ?_ _ | refine blk_drew ?_ | refine blk_alloc ?_ _)); refine blk_put (cs := #[.int .u64 0, .int .u64 0]) ?_ 0 _ rfl; (with_reducible repeat (first | refine blk_drewN ?_ _ | refine blk_drew ?_ | refine blk_alloc ?_ _)); refine blk_far ?_ NB112_111.out _; (with_reducible repeat (first | refine blk_drewN ?_ _ | refine blk_drew ?_ | refine blk_alloc ?_ _)); refine blk_far ?_ NB112_111.out _; (with_reducible repeat (first | refine blk_drewN ?_ _ | refine blk_drew ?_ | refine blk_alloc ?_ _)); exact BK112.out⟩, ⟨by repeat (first | (with_reducible first | exact HB.out | apply below_alloc | apply pw_below_drewN | apply below_drew1 | refine below_set ?_ GE111.out | refine below_set ?_ GE112.out) | exact HB.out)⟩⟩
                case round =>
                  clear H'
                  try clear c1
                  try clear p2
                  try clear c7
                  try clear c7b0
                  try clear c7b1
                  try clear c8
                  try clear c10
                  try clear c10b0
                  try clear c11
                  try clear c12
                  try clear c12b0
                  try clear c13
                  try clear c13b0
                  try clear c14
                  try clear c14b0
                  try clear c17
                  try clear hcz18_0
                  try clear hcz18_1
                  try clear hcz19_0
                  try clear hcz19_1
                  try clear hfz18_0
                  try clear hfz18_1
                  try clear hfz19_0
                  try clear hfz19_1
                  try clear p2
                  obtain ⟨x52_2, x112000_2, x112001_2, x113000_2, x113001_2, rfl, HA, HK2, BK111, BK112, HB⟩ := hrel
                  cases gk with
                  | zero => exact absurd HA.out (by simp [verdict_Enough.l0])
                  | succ k2 =>
                    have H := HA.out
                    clear HA
                    simp only [verdict_Enough.l0] at H
                    by_cases c20 : x52_2 < a3
                    · rw [if_pos c20] at H
                      have c20b0 : decide (x52_2 < a3) = true := decide_eq_true c20
                      clear c20
                      replace H := Option.bind_eq_some_iff.mp H
                      obtain ⟨⟨t113, t114⟩, A210, H⟩ := H
                      replace H : ((verdict_wide_times.f x113000_2 x113001_2 t109).bind fun bt115 => (verdict_Enough.l0 k2 t108 t109 a3 (wrap64 (x52_2 + 1)) t113 t114 bt115.1 bt115.2)) = some (r1, r2) := H
                      have A21 := Aside0.mk A210
                      clear A210
                      replace H := Option.bind_eq_some_iff.mp H
                      obtain ⟨⟨t115, t116⟩, A220, H⟩ := H
                      replace H : (verdict_Enough.l0 k2 t108 t109 a3 (wrap64 (x52_2 + 1)) t113 t114 t115 t116) = some (r1, r2) := H
                      have A22 := Aside0.mk A220
                      clear A220
                      have H' := Aside0.mk H
                      clear H
                      try go_wp2
                      have n0_ := Aside0.mk (blk_drew BK111.out)
                      have n1_ := Aside0.mk (blk_drew BK112.out)
                      have n2_ := Aside0.mk (below_drew1 HB.out)
                      clear BK111
                      clear BK112
                      clear HB
                      have BK111 := n0_
                      have BK112 := n1_
                      have HB := n2_
                      clear n0_ n1_ n2_
                      refine start_ (n := 8) (S := fun w' => w'.cell? ⟨gb111, 0, none⟩ = some (.int .u64 x112000_2) ∧ w'.cell? ⟨gb111, 1, none⟩ = some (.int .u64 x112001_2) ∧ w'.cell? ⟨gb112, 0, none⟩ = some (.int .u64 x113000_2) ∧ w'.cell? ⟨gb112, 1, none⟩ = some (.int .u64 x113001_2)) (ds := [6, 7]) #[false, false, false, false, false, false, false, false] (by kernel_rfl) rfl rfl ⟨(blk_cell BK111.out 0).trans rfl, (blk_cell BK111.out 1).trans rfl, (blk_cell BK112.out 0).trans rfl, (blk_cell BK112.out 1).trans rfl⟩ (fun hHeld => ?_); refine with_tabW verdict_Enough.tab11 verdict_Enough.bits11 (fun HT_ HW_ => ?_)
                      generalize wr.drew = w23 at BK111 BK112 HB hHeld ⊢
                      refine pure_ (i := 1) (N := some 55) (v := ?_) (a' := ?_) #[false, true, false, false, false, false, false, false] rfl rfl (any_of HT_.out (by kernel_rfl)) (fun _ _ _ h => h) (Or.inl ⟨by rfl, ?_⟩) ?_ ?_
                      rotate_left
                      · intro w'
                        go_simp
                        with_reducible rfl
                      rotate_left
                      · simp only [Act.put, List.setIfInBounds_toArray, List.set_cons_zero, List.set_cons_succ, i64_w, i32_w]
                        rfl
                      refine pure_ (i := 4) (N := some 58) (v := ?_) (a' := ?_) #[false, true, false, false, true, false, false, false] rfl rfl (any_of HT_.out (by kernel_rfl)) (fun _ _ _ h => h) (Or.inl ⟨by rfl, ?_⟩) ?_ ?_
                      rotate_left
                      · intro w'
                        go_simp
                        with_reducible rfl
                      rotate_left
                      · simp only [Act.put, List.setIfInBounds_toArray, List.set_cons_zero, List.set_cons_succ, i64_w, i32_w]
                        rfl
                      refine take_ (i := 0) (N := some 54) (v := ?_) (a' := ?_) #[true, true, false, false, true, false, false, false] rfl rfl (take_ofW HT_.out HW_.out (by kernel_rfl)) (fun _ _ _ h => h) (Or.inl ⟨by rfl, ?_⟩) hHeld ?_ ?_
                      rotate_left
                      · rintro w' ⟨s0, s1, s2, s3⟩
                        go_simp
                        with_reducible rfl
                      rotate_left
                      · simp only [Act.put, List.setIfInBounds_toArray, List.set_cons_zero, List.set_cons_succ, i64_w, i32_w]
                        rfl
                      refine take_ (i := 3) (N := some 57) (v := ?_) (a' := ?_) #[true, true, false, true, true, false, false, false] rfl rfl (take_ofW HT_.out HW_.out (by kernel_rfl)) (fun _ _ _ h => h) (Or.inl ⟨by rfl, ?_⟩) hHeld ?_ ?_
                      rotate_left
                      · rintro w' ⟨s0, s1, s2, s3⟩
                        go_simp
                        with_reducible rfl
                      rotate_left
                      · simp only [Act.put, List.setIfInBounds_toArray, List.set_cons_zero, List.set_cons_succ, i64_w, i32_w]
                        rfl
                      refine one_ (i := 2) (N := some 56) #[true, true, true, true, true, false, false, false] rfl rfl (one_of HT_.out (by kernel_rfl)) (by decide) (fun K hK => ?_)
                      refine goes_ Try.func20 (by kernel_rfl) rfl #[.agg #[.int .u64 x112000_2, .int .u64 x112001_2], .int .i64 t108] (by rfl) rfl rfl (by (try simp only [List.map_toArray, List.map_cons, List.map_nil]); first | done | rfl | (simp only [List.length_drop, List.length_take]; rfl)) ?_
                      with_reducible refine (verdict_wide_times.calls x112000_2 x112001_2 t108 t113 t114 _ A21.out).mono ?_
                      rintro e w24 ⟨rfl, hb⟩
                      refine ⟨_, rfl, ?_⟩
                      have n0_ := Aside0.mk (blk_below (g := gb111) (o := .cells #[.int .u64 x112000_2, .int .u64 x112001_2] 55 (0, 0)) (by (with_reducible repeat (first | refine blk_drewN ?_ _ | refine blk_drew ?_ | refine blk_alloc ?_ _)); exact BK111.out) hb)
                      have n1_ := Aside0.mk (blk_below (g := gb112) (o := .cells #[.int .u64 x113000_2, .int .u64 x113001_2] 55 (0, 0)) (by (with_reducible repeat (first | refine blk_drewN ?_ _ | refine blk_drew ?_ | refine blk_alloc ?_ _)); exact BK112.out) hb)
                      have n2_ := Aside0.mk (below_step (by repeat (first | (with_reducible first | exact HB.out | apply below_alloc | apply pw_below_drewN | apply below_drew1 | refine below_set ?_ GE111.out | refine below_set ?_ GE112.out) | exact HB.out)) hb)
                      clear BK111
                      clear BK112
                      clear HB
                      have BK111 := n0_
                      have BK112 := n1_
                      have HB := n2_
                      clear n0_ n1_ n2_
                      (try clear hb)
                      (try clear hb2)
                      (try clear hk)
                      (try clear hi)
                      refine hK.out _ _ ⟨(blk_cell BK111.out 0).trans rfl, (blk_cell BK111.out 1).trans rfl, (blk_cell BK112.out 0).trans rfl, (blk_cell BK112.out 1).trans rfl⟩ (fun hHeld => ?_)
                      clear hK K
                      refine norm_ (a' := ?_) ?_ ?_
                      rotate_left
                      · show Act.put _ (some 56) _ = _
                        simp only [Act.put, List.setIfInBounds_toArray, List.set_cons_zero, List.set_cons_succ, i64_w, i32_w]
                        rfl
                      refine one_ (i := 5) (N := some 59) #[true, true, true, true, true, true, false, false] rfl rfl (one_of HT_.out (by kernel_rfl)) (by decide) (fun K hK => ?_)
                      refine goes_ Try.func20 (by kernel_rfl) rfl #[.agg #[.int .u64 x113000_2, .int .u64 x113001_2], .int .i64 t109] (by rfl) rfl rfl (by (try simp only [List.map_toArray, List.map_cons, List.map_nil]); first | done | rfl | (simp only [List.length_drop, List.length_take]; rfl)) ?_
                      with_reducible refine (verdict_wide_times.calls x113000_2 x113001_2 t109 t115 t116 _ A22.out).mono ?_
                      rintro e w25 ⟨rfl, hb⟩
                      refine ⟨_, rfl, ?_⟩
                      have n0_ := Aside0.mk (blk_below (g := gb111) (o := .cells #[.int .u64 x112000_2, .int .u64 x112001_2] 55 (0, 0)) (by (with_reducible repeat (first | refine blk_drewN ?_ _ | refine blk_drew ?_ | refine blk_alloc ?_ _)); exact BK111.out) hb)
                      have n1_ := Aside0.mk (blk_below (g := gb112) (o := .cells #[.int .u64 x113000_2, .int .u64 x113001_2] 55 (0, 0)) (by (with_reducible repeat (first | refine blk_drewN ?_ _ | refine blk_drew ?_ | refine blk_alloc ?_ _)); exact BK112.out) hb)
                      have n2_ := Aside0.mk (below_step (by repeat (first | (with_reducible first | exact HB.out | apply below_alloc | apply pw_below_drewN | apply below_drew1 | refine below_set ?_ GE111.out | refine below_set ?_ GE112.out) | exact HB.out)) hb)
                      clear BK111
                      clear BK112
                      clear HB
                      have BK111 := n0_
                      have BK112 := n1_
                      have HB := n2_
                      clear n0_ n1_ n2_
                      (try clear hb)
                      (try clear hb2)
                      (try clear hk)
                      (try clear hi)
                      refine hK.out _ _ ⟨(blk_cell BK111.out 0).trans rfl, (blk_cell BK111.out 1).trans rfl, (blk_cell BK112.out 0).trans rfl, (blk_cell BK112.out 1).trans rfl⟩ (fun hHeld => ?_)
                      clear hK K
                      refine norm_ (a' := ?_) ?_ ?_
                      rotate_left
                      · show Act.put _ (some 59) _ = _
                        simp only [Act.put, List.setIfInBounds_toArray, List.set_cons_zero, List.set_cons_succ, i64_w, i32_w]
                        rfl
                      refine last_ (i := 6) (N := none) #[true, true, true, true, true, true, true, false] rfl rfl (one_of HT_.out (by kernel_rfl)) (by decide) (fun K hK => ?_)
                      have hs26 : w25.cell? ⟨gb111, 0, none⟩ = some (.int .u64 x112000_2) := (blk_cell BK111.out 0).trans rfl
                      have hfs26 := blk_frozen BK111.out 0
                      have hns26_1 := NB112_111.out
                      have hms26_1 := NB111_112.out
                      have hs27 : w25.cell? ⟨gb111, 1, none⟩ = some (.int .u64 x112001_2) := (blk_cell BK111.out 1).trans rfl
                      have hfs27 := blk_frozen BK111.out 1
                      have hns27_1 := NB112_111.out
                      have hms27_1 := NB111_112.out
                      refine skip_ (w1 := ?_) (by rfl) rfl ?_ ?_
                      rotate_left
                      · go_simp
                        rfl
                      refine hK.out _ _ ?_
                      clear hK K
                      refine last_ (i := 7) (N := none) #[true, true, true, true, true, true, true, true] rfl rfl (one_of HT_.out (by kernel_rfl)) (by decide) (fun K hK => ?_)
                      have hs28 : w25.cell? ⟨gb112, 0, none⟩ = some (.int .u64 x113000_2) := (blk_cell BK112.out 0).trans rfl
                      have hfs28 := blk_frozen BK112.out 0
                      have hns28_0 := NB111_112.out
                      have hms28_0 := NB112_111.out
                      have hs29 : w25.cell? ⟨gb112, 1, none⟩ = some (.int .u64 x113001_2) := (blk_cell BK112.out 1).trans rfl
                      have hfs29 := blk_frozen BK112.out 1
                      have hns29_0 := NB111_112.out
                      have hms29_0 := NB112_111.out
                      refine skip_ (w1 := ?_) (by rfl) rfl ?_ ?_
                      rotate_left
                      · go_simp
                        rfl
                      refine hK.out _ _ ?_
                      clear hK K
                      refine done_ (done_of HT_.out (by kernel_rfl)) ?_
                      try go_wp2
                      go_roundg k2
                      case measure => have := HJ7.out; have := HK2.out; omega
                      case rel => exact ⟨(wrap64 (x52_2 + 1)), (t113), (t114), (t115), (t116), (by first | rfl | (simp; done) | (simp [*]; done)), H', ⟨by have := HJ7.out; have := HK2.out; omega⟩, ⟨by (with_reducible repeat (first | refine blk_drewN ?_ _ | refine blk_drew ?_ | refine blk_alloc ?_ _)); refine blk_far ?_ NB111_112.out _; (with_reducible repeat (first | refine blk_drewN ?_ _ | refine blk_drew ?_ | refine blk_alloc ?_ _)); refine blk_far ?_ NB111_112.out _; (with_reducible repeat (first | refine blk_drewN ?_ _ | refine blk_drew ?_ | refine blk_alloc ?_ _)); refine blk_put (cs := #[.int .u64 t113, .int .u64 x112001_2]) ?_ 1 _ rfl; (with_reducible repeat (first | refine blk_drewN ?_ _ | refine blk_drew ?_ | refine blk_alloc ?_ _)); refine blk_put (cs := #[.int .u64 x112000_2, .int .u64 x112001_2]) ?_ 0 _ rfl; (with_reducible repeat (first | refine blk_drewN ?_ _ | refine blk_drew ?_ | refine blk_alloc ?_ _)); exact BK111.out⟩, ⟨by (with_reducible repeat (first | refine blk_drewN ?_ _ | refine blk_drew ?_ | refine blk_alloc ?_ _)); refine blk_put (cs := #[.int .u64 t115, .int .u64 x113001_2]) ?_ 1 _ rfl; (with_reducible repeat (first | refine blk_drewN ?_ _ | refine blk_drew ?_ | refine blk_alloc ?_ _)); refine blk_put (cs := #[.int .u64 x113000_2, .int .u64 x113001_2]) ?_ 0 _ rfl; (with_reducible repeat (first | refine blk_drewN ?_ _ | refine blk_drew ?_ | refine blk_alloc ?_ _)); refine blk_far ?_ NB112_111.out _; (with_reducible repeat (first | refine blk_drewN ?_ _ | refine blk_drew ?_ | refine blk_alloc ?_ _)); refine blk_far ?_ NB112_111.out _; (with_reducible repeat (first | refine blk_drewN ?_ _ | refine blk_drew ?_ | refine blk_alloc ?_ _)); exact BK112.out⟩, ⟨by repeat (first | (with_reducible first | exact HB.out | apply below_alloc | apply pw_below_drewN | apply below_drew1 | refine below_set ?_ GE111.out | refine below_set ?_ GE112.out) | exact HB.out)⟩⟩
                    · rw [if_neg c20] at H
                      have c20b0 : decide (x52_2 < a3) = false := decide_eq_false c20
                      clear c20
                      replace H := Option.bind_eq_some_iff.mp H
                      obtain ⟨t117, A300, H⟩ := H
                      replace H : (some (t117, 0)) = some (r1, r2) := H
                      have A30 := Aside0.mk A300
                      clear A300
                      simp only [Option.some.injEq, Prod.mk.injEq] at H
                      obtain ⟨rfl, rfl⟩ := H
                      have hnb31 := NB111_112.out
                      have hnc31 := NB112_111.out
                      have hcz32_0 : wr.cell? ⟨gb111, 0, none⟩ = some (.int .u64 x112000_2) := (blk_cell BK111.out 0).trans rfl
                      have hcz32_1 : wr.cell? ⟨gb111, 1, none⟩ = some (.int .u64 x112001_2) := (blk_cell BK111.out 1).trans rfl
                      have hfz32_0 := blk_frozen BK111.out 0
                      have hfz32_1 := blk_frozen BK111.out 1
                      have hcz33_0 : wr.cell? ⟨gb112, 0, none⟩ = some (.int .u64 x113000_2) := (blk_cell BK112.out 0).trans rfl
                      have hcz33_1 : wr.cell? ⟨gb112, 1, none⟩ = some (.int .u64 x113001_2) := (blk_cell BK112.out 1).trans rfl
                      have hfz33_0 := blk_frozen BK112.out 0
                      have hfz33_1 := blk_frozen BK112.out 1
                      go_wp2_with (first | ((with_reducible refine gate_callee (f := 21) rfl ?_); refine goesL_ (some 63) rfl rfl Try.func21 (by kernel_rfl) rfl #[.agg #[.int .u64 x112000_2, .int .u64 x112001_2], .agg #[.int .u64 x113000_2, .int .u64 x113001_2]] rfl (by (try simp only [List.map_toArray, List.map_cons, List.map_nil]); first | done | rfl | (simp only [List.length_drop, List.length_take]; rfl)) ?_; (with_reducible refine (verdict_wide_most.calls x112000_2 x112001_2 x113000_2 x113001_2 t117 _ A30.out).mono ?_); rintro e w34 ⟨rfl, hb⟩; refine ⟨_, rfl, ?_⟩; have n0_ := Aside0.mk (blk_below (g := gb111) (o := .cells #[.int .u64 x112000_2, .int .u64 x112001_2] 55 (0, 0)) (by (with_reducible repeat (first | refine blk_drewN ?_ _ | refine blk_drew ?_ | refine blk_alloc ?_ _)); exact BK111.out) hb); have n1_ := Aside0.mk (blk_below (g := gb112) (o := .cells #[.int .u64 x113000_2, .int .u64 x113001_2] 55 (0, 0)) (by (with_reducible repeat (first | refine blk_drewN ?_ _ | refine blk_drew ?_ | refine blk_alloc ?_ _)); exact BK112.out) hb); have n2_ := Aside0.mk (below_step (by repeat (first | (with_reducible first | exact HB.out | apply below_alloc | apply pw_below_drewN | apply below_drew1 | refine below_set ?_ GE111.out | refine below_set ?_ GE112.out) | exact HB.out)) hb); clear BK111; clear BK112; clear HB; have BK111 := n0_; have BK112 := n1_; have HB := n2_; clear n0_ n1_ n2_; (try clear hb); (try clear hb2); (try clear hk); (try clear hi)))
                      go_ret2
                      exact ⟨by first | rfl | (simp [errW_none, errW_some] <;> rfl) | (simp [*, errW_none, errW_some] <;> rfl), by repeat (first | (with_reducible first | exact HB.out | apply below_alloc | apply pw_below_drewN | apply below_drew1 | refine below_set ?_ GE111.out | refine below_set ?_ GE112.out) | exact HB.out)⟩
  · rw [if_neg c7] at H
    have c7b0 : (t110 == 0) = false := beq_eq_false_iff_ne.mpr c7
    have c7b1 : (t110 != 0) = true := bne_iff_ne.mpr c7
    simp only [Option.some.injEq, Prod.mk.injEq] at H
    obtain ⟨rfl, rfl⟩ := H
    go_enter Try.func8, Try.ntmps8
    go_wp2_with (first | ((with_reducible refine gate_callee (f := 7) rfl ?_); refine goesL_ (some 21) rfl rfl Try.func7 (by kernel_rfl) rfl #[.int .i64 a0, .int .i64 a1, .int .i64 a2] rfl (by (try simp only [List.map_toArray, List.map_cons, List.map_nil]); first | done | rfl | (simp only [List.length_drop, List.length_take]; rfl)) ?_; (with_reducible refine (verdict_Miss.calls k a0 a1 a2 t108 t109 t110 _ A6.out).mono ?_); rintro e w35 ⟨rfl, hb⟩; refine ⟨_, rfl, ?_⟩; have n0_ := Aside0.mk (below_step (by repeat (first | (with_reducible first | exact HB.out | apply below_alloc | apply pw_below_drewN | apply below_drew1) | exact HB.out)) hb); clear HB; have HB := n0_; clear n0_; (try clear hb); (try clear hb2); (try clear hk); (try clear hi)))
    go_ret2
    exact ⟨by first | rfl | (simp [errW_none, errW_some] <;> rfl) | (simp [*, errW_none, errW_some] <;> rfl), by repeat (first | (with_reducible first | exact HB.out | apply below_alloc | apply pw_below_drewN | apply below_drew1) | exact HB.out)⟩

/-! ### verdict_first_int: function 22 -/
def firstO : Nat → (Int → Option Bool) → Int → Int → Option Int
  | 0, _, _, _ => none
  | n + 1, g, lo, hi => if lo ≤ hi then (g lo).bind fun b => (if b = true then some lo else firstO n g (lo + 1) hi) else some lo

set_option maxHeartbeats 8000000 in
set_option maxRecDepth 100000 in
theorem first_calls (F : FuncId) (caps : Array Value) (g : Int → Option Bool) (n : Nat) (lo hi r : Int) (w : World) (hlo : -4000000000 ≤ lo) (hhi : hi ≤ 4000000000)
    (hcf : ∀ args W, Sem.run Try.prog (callFunc F args) W = .ok (.enter F args) W)
    (hcall : ∀ x b w', g x = some b → Below w.heap.size w w' → Calls Try.prog F (#[.int .i64 x] ++ caps) w' fun e w'' => e = .returned (.bool b) ∧ Below w'.heap.size w' w'')
    (h : firstO n g lo hi = some r) :
    Calls Try.prog 22 #[.int .i64 lo, .int .i64 hi, .func (.func F) #[] caps] w fun e w' => e = .returned (.int .i64 r) ∧ Below w.heap.size w w' := by
  go_enter Try.func22, Try.ntmps22
  go_wp2
  go_loopw [0] (fun v wr => ∃ (m : Nat) (x : Int), v = .int .i64 x ∧ -4000000000 ≤ x ∧ firstO m g x hi = some r ∧ Below w.heap.size w wr) (fun v _ => (hi + 1 - intOf v).toNat)
  case atStart => exact ⟨n, lo, rfl, hlo, h, Below.refl _ _⟩
  case round =>
    obtain ⟨m, x, rfl, hx, hm, hb⟩ := hrel
    cases m with
    | zero => simp [firstO] at hm
    | succ m =>
      simp only [firstO] at hm
      by_cases c : x ≤ hi
      · rw [if_pos c] at hm
        obtain ⟨b, hgb, hm⟩ := Option.bind_eq_some_iff.1 hm
        have hcc := hcall x b wr hgb hb
        have Hm := Aside0.mk hm
        have Hb := Aside0.mk hb
        have Hc := Aside0.mk hcc
        clear hm hb hcc hcall
        go_wp2_with fail
        refine Hc.out.mono ?_
        rintro e w1 ⟨rfl, hb1⟩
        have Hb1 := Aside0.mk (below_step Hb.out hb1)
        clear hb1
        have hm := Hm.out
        clear Hm
        cases b with
        | true =>
          simp only [if_true, Option.some.injEq] at hm
          subst hm
          go_wp2
          go_ret
          exact ⟨rfl, Hb1.out⟩
        | false =>
          simp only [Bool.false_eq_true, if_false] at hm
          have Hm := Aside0.mk hm
          clear hm
          go_wp2
          go_roundw
          case rel => exact ⟨m, x + 1, rfl, by omega, Hm.out, Hb1.out⟩
          case measure => simp [intOf]; omega
      · rw [if_neg c] at hm
        obtain rfl := Option.some.inj hm
        go_wp2
        go_ret
        exact ⟨rfl, hb⟩

theorem firstO_mono (g g' : Int → Option Bool) (hg : ∀ x, LeO (g x) (g' x)) : ∀ n lo hi, LeO (firstO n g lo hi) (firstO (n + 1) g' lo hi)
  | 0, _, _ => fun r h => by simp [firstO] at h
  | n + 1, lo, hi => by
    rw [firstO, firstO]
    refine LeO.ite (LeO.bind (hg lo) fun b => ?_) (LeO.refl _)
    refine LeO.ite (LeO.refl _) (firstO_mono g g' hg n (lo + 1) hi)

/-! ### verdict_Least: function 9 -/
set_option maxHeartbeats 8000000 in
set_option maxRecDepth 100000 in
theorem least1_calls (k : Nat) (n bad odds x : Int) (b : Bool) (w : World) (p1 p2 p3 : Nat)
    (hp1 : w.cell? ⟨p1, 0, none⟩ = some (.int .i64 n)) (hp2 : w.cell? ⟨p2, 0, none⟩ = some (.int .i64 bad)) (hp3 : w.cell? ⟨p3, 0, none⟩ = some (.int .i64 odds))
    (h : (verdict_Enough.f k n bad x 1 odds).map Prod.fst = some b) :
    Calls Try.prog 23 #[.int .i64 x, .pointer (some ⟨p1, 0, none⟩), .pointer (some ⟨p2, 0, none⟩), .pointer (some ⟨p3, 0, none⟩)] w fun e w' => e = .returned (.bool b) ∧ Below w.heap.size w w' := by
  obtain ⟨⟨b', e'⟩, hE, rfl⟩ := Option.map_eq_some_iff.1 h
  have HE := Aside0.mk hE
  clear h hE
  go_enter Try.func23, Try.ntmps23
  go_wp2_with fail
  refine (verdict_Enough.calls _ _ _ _ _ _ _ _ _ HE.out).mono ?_
  rintro e w1 ⟨rfl, hb1⟩
  have Hb1 := Aside0.mk hb1
  clear hb1
  go_wp2
  go_ret
  exact ⟨rfl, Hb1.out⟩

def verdict_Least.f (k : Nat) (a0 a1 a2 : Int) : Option (Int × Int) :=
  if a0 > 30 ∨ a2 > 100000 then some (0, 2) else if a0 < 1 ∨ a1 < 1 ∨ a1 > a0 ∨ a2 < 1 then some (0, 1)
  else (firstO k (fun x => (verdict_Enough.f k a0 a1 x 1 a2).map Prod.fst) 0 a0).map fun r => (r, 0)
theorem verdict_Least.mono : ∀ a0 a1 a2 k, LeO (verdict_Least.f k a0 a1 a2) (verdict_Least.f (k + 1) a0 a1 a2) := by
  intro a0 a1 a2 k
  unfold verdict_Least.f
  exact LeO.ite (LeO.refl _) (LeO.ite (LeO.refl _) (LeO.map _ (firstO_mono _ _ (fun x => LeO.map _ (verdict_Enough.mono _ _ _ _ _ _)) _ _ _)))
set_option maxHeartbeats 8000000 in
set_option maxRecDepth 100000 in
theorem verdict_Least.calls (k : Nat) (a0 : Int) (a1 : Int) (a2 : Int) (r1 : Int) (r2 : Int) (w : World) (h : verdict_Least.f k a0 a1 a2 = some (r1, r2)) :
    Calls Try.prog 9 #[.int .i64 a0, .int .i64 a1, .int .i64 a2] w fun e w' => e = .returned (.tuple #[.int .i64 r1, .int .i64 r2]) ∧ Below w.heap.size w w' := by
  unfold verdict_Least.f at h
  by_cases c1 : a0 > 30
  · rw [if_pos (.inl c1)] at h
    simp only [Option.some.injEq, Prod.mk.injEq] at h
    obtain ⟨rfl, rfl⟩ := h
    go_enter Try.func9, Try.ntmps9
    go_wp2
    go_ret2
    exact ⟨rfl, by repeat (first | exact Below.refl _ _ | apply below_alloc | apply pw_below_drewN)⟩
  · by_cases c2 : a2 > 100000
    · rw [if_pos (.inr c2)] at h
      simp only [Option.some.injEq, Prod.mk.injEq] at h
      obtain ⟨rfl, rfl⟩ := h
      go_enter Try.func9, Try.ntmps9
      go_wp2
      go_ret2
      exact ⟨rfl, by repeat (first | exact Below.refl _ _ | apply below_alloc | apply pw_below_drewN)⟩
    · rw [if_neg (by omega)] at h
      by_cases d : a0 < 1 ∨ a1 < 1 ∨ a1 > a0 ∨ a2 < 1
      · rw [if_pos d] at h
        simp only [Option.some.injEq, Prod.mk.injEq] at h
        obtain ⟨rfl, rfl⟩ := h
        by_cases d1 : a0 < 1
        · go_enter Try.func9, Try.ntmps9
          go_wp2
          go_ret2
          exact ⟨rfl, by repeat (first | exact Below.refl _ _ | apply below_alloc | apply pw_below_drewN)⟩
        · by_cases d2 : a1 < 1
          · go_enter Try.func9, Try.ntmps9
            go_wp2
            go_ret2
            exact ⟨rfl, by repeat (first | exact Below.refl _ _ | apply below_alloc | apply pw_below_drewN)⟩
          · by_cases d3 : a1 > a0
            · go_enter Try.func9, Try.ntmps9
              go_wp2
              go_ret2
              exact ⟨rfl, by repeat (first | exact Below.refl _ _ | apply below_alloc | apply pw_below_drewN)⟩
            · have d4 : a2 < 1 := by omega
              go_enter Try.func9, Try.ntmps9
              go_wp2
              go_ret2
              exact ⟨rfl, by repeat (first | exact Below.refl _ _ | apply below_alloc | apply pw_below_drewN)⟩
      · rw [if_neg d] at h
        obtain ⟨r, hr, h⟩ := Option.map_eq_some_iff.1 h
        simp only [Prod.mk.injEq] at h
        obtain ⟨rfl, rfl⟩ := h
        have Hr := Aside0.mk hr
        clear hr
        have e1 : ¬ a0 < 1 := by omega
        have e2 : ¬ a1 < 1 := by omega
        have e3 : ¬ a1 > a0 := by omega
        have e4 : ¬ a2 < 1 := by omega
        have hmf : ∀ (fn : Fn) (first cap : Array Value) (w : World), (Instr.makeFunc fn first cap).run Try.prog w = .ok (.func fn first cap) w := fun _ _ _ _ => rfl
        go_enter Try.func9, Try.ntmps9
        go_wp2_with fail
        refine (first_calls 23 #[.pointer (some ⟨w.heap.size, 0, none⟩), .pointer (some ⟨w.heap.size + 1, 0, none⟩), .pointer (some ⟨w.heap.size + 2, 0, none⟩)] (fun x => (verdict_Enough.f k a0 a1 x 1 a2).map Prod.fst) k 0 a0 r _ (by omega) (by omega) (fun _ _ => rfl) ?_ Hr.out).mono ?_
        · intro x b w' hg hb
          refine least1_calls k a0 a1 a2 x b w' _ _ _ ?_ ?_ ?_ hg
          · rw [hb.cell (by first | (simp; done) | (simp; omega))]; simp [go_sem]
          · rw [hb.cell (by first | (simp; done) | (simp; omega))]; simp [go_sem]
          · rw [hb.cell (by first | (simp; done) | (simp; omega))]; simp [go_sem]
        · rintro e w1 ⟨rfl, hb1⟩
          have Hb1 := Aside0.mk hb1
          clear hb1
          go_wp2
          go_ret2
          exact ⟨rfl, below_step (by repeat (first | exact Below.refl _ _ | apply below_alloc | apply pw_below_drewN)) Hb1.out⟩

/-! ### verdict_Rounds: function 10 -/
set_option maxHeartbeats 8000000 in
set_option maxRecDepth 100000 in
theorem rounds1_calls (k : Nat) (n bad checks odds x : Int) (b : Bool) (w : World) (p1 p2 p3 p4 : Nat)
    (hp1 : w.cell? ⟨p1, 0, none⟩ = some (.int .i64 n)) (hp2 : w.cell? ⟨p2, 0, none⟩ = some (.int .i64 bad)) (hp3 : w.cell? ⟨p3, 0, none⟩ = some (.int .i64 checks)) (hp4 : w.cell? ⟨p4, 0, none⟩ = some (.int .i64 odds))
    (h : (verdict_Enough.f k n bad checks x odds).map Prod.fst = some b) :
    Calls Try.prog 24 #[.int .i64 x, .pointer (some ⟨p1, 0, none⟩), .pointer (some ⟨p2, 0, none⟩), .pointer (some ⟨p3, 0, none⟩), .pointer (some ⟨p4, 0, none⟩)] w fun e w' => e = .returned (.bool b) ∧ Below w.heap.size w w' := by
  obtain ⟨⟨b', e'⟩, hE, rfl⟩ := Option.map_eq_some_iff.1 h
  have HE := Aside0.mk hE
  clear h hE
  go_enter Try.func24, Try.ntmps24
  go_wp2_with fail
  refine (verdict_Enough.calls _ _ _ _ _ _ _ _ _ HE.out).mono ?_
  rintro e w1 ⟨rfl, hb1⟩
  have Hb1 := Aside0.mk hb1
  clear hb1
  go_wp2
  go_ret
  exact ⟨rfl, Hb1.out⟩

def verdict_Rounds.f (k : Nat) (a0 a1 a2 a3 : Int) : Option (Int × Int) :=
  (verdict_Enough.f k a0 a1 a2 1 a3).bind fun b =>
    if b.2 = 0 then (firstO k (fun x => (verdict_Enough.f k a0 a1 a2 x a3).map Prod.fst) 1 4).map fun r => (if r > 4 then (0, 8) else (r, 0))
    else some (0, b.2)
theorem verdict_Rounds.mono : ∀ a0 a1 a2 a3 k, LeO (verdict_Rounds.f k a0 a1 a2 a3) (verdict_Rounds.f (k + 1) a0 a1 a2 a3) := by
  intro a0 a1 a2 a3 k
  unfold verdict_Rounds.f
  exact LeO.bind (verdict_Enough.mono _ _ _ _ _ _) fun b => LeO.ite (LeO.map _ (firstO_mono _ _ (fun x => LeO.map _ (verdict_Enough.mono _ _ _ _ _ _)) _ _ _)) (LeO.refl _)
set_option maxHeartbeats 8000000 in
set_option maxRecDepth 100000 in
theorem verdict_Rounds.calls (k : Nat) (a0 : Int) (a1 : Int) (a2 : Int) (a3 : Int) (r1 : Int) (r2 : Int) (w : World) (h : verdict_Rounds.f k a0 a1 a2 a3 = some (r1, r2)) :
    Calls Try.prog 10 #[.int .i64 a0, .int .i64 a1, .int .i64 a2, .int .i64 a3] w fun e w' => e = .returned (.tuple #[.int .i64 r1, .int .i64 r2]) ∧ Below w.heap.size w w' := by
  unfold verdict_Rounds.f at h
  obtain ⟨⟨b1, b2⟩, hE, h⟩ := Option.bind_eq_some_iff.1 h
  have HE := Aside0.mk hE
  clear hE
  simp only at h
  have hmf : ∀ (fn : Fn) (first cap : Array Value) (w : World), (Instr.makeFunc fn first cap).run Try.prog w = .ok (.func fn first cap) w := fun _ _ _ _ => rfl
  by_cases c : b2 = 0
  · rw [if_pos c] at h
    subst c
    obtain ⟨r, hr, h⟩ := Option.map_eq_some_iff.1 h
    have Hr := Aside0.mk hr
    have Hh := Aside0.mk h
    clear hr h
    go_enter Try.func10, Try.ntmps10
    go_wp2_with fail
    refine (verdict_Enough.calls _ _ _ _ _ _ _ _ _ HE.out).mono ?_
    rintro e w1 ⟨rfl, hb1⟩
    have Hb1 := Aside0.mk hb1
    clear hb1
    go_wp2_with fail
    refine (first_calls 24 #[.pointer (some ⟨w.heap.size, 0, none⟩), .pointer (some ⟨w.heap.size + 1, 0, none⟩), .pointer (some ⟨w.heap.size + 2, 0, none⟩), .pointer (some ⟨w.heap.size + 3, 0, none⟩)] (fun x => (verdict_Enough.f k a0 a1 a2 x a3).map Prod.fst) k 1 4 r _ (by omega) (by omega) (fun _ _ => rfl) ?_ Hr.out).mono ?_
    · intro x b w' hg hb
      have hb' := Hb1.out.trans (hb.mono Hb1.out.size)
      refine rounds1_calls k a0 a1 a2 a3 x b w' _ _ _ _ ?_ ?_ ?_ ?_ hg
      · rw [hb'.cell (by first | (simp; done) | (simp; omega))]; simp [go_sem]
      · rw [hb'.cell (by first | (simp; done) | (simp; omega))]; simp [go_sem]
      · rw [hb'.cell (by first | (simp; done) | (simp; omega))]; simp [go_sem]
      · rw [hb'.cell (by first | (simp; done) | (simp; omega))]; simp [go_sem]
    · rintro e w2 ⟨rfl, hb2⟩
      have Hb2 := Aside0.mk hb2
      clear hb2
      by_cases d : r > 4
      · go_wp2
        go_ret2
        have h := Hh.out
        rw [if_pos d] at h
        simp only [Prod.mk.injEq] at h
        obtain ⟨rfl, rfl⟩ := h
        exact ⟨rfl, below_step (below_step (by repeat (first | exact Below.refl _ _ | apply below_alloc | apply pw_below_drewN)) Hb1.out) Hb2.out⟩
      · go_wp2
        go_ret2
        have h := Hh.out
        rw [if_neg (by omega)] at h
        simp only [Prod.mk.injEq] at h
        obtain ⟨rfl, rfl⟩ := h
        exact ⟨rfl, below_step (below_step (by repeat (first | exact Below.refl _ _ | apply below_alloc | apply pw_below_drewN)) Hb1.out) Hb2.out⟩
  · rw [if_neg c] at h
    simp only [Option.some.injEq, Prod.mk.injEq] at h
    obtain ⟨rfl, rfl⟩ := h
    have c' : (b2 != 0) = true := by simpa using c
    go_enter Try.func10, Try.ntmps10
    go_wp2_with fail
    refine (verdict_Enough.calls _ _ _ _ _ _ _ _ _ HE.out).mono ?_
    rintro e w1 ⟨rfl, hb1⟩
    have Hb1 := Aside0.mk hb1
    clear hb1
    go_wp2
    go_ret2
    exact ⟨rfl, below_step (by repeat (first | exact Below.refl _ _ | apply below_alloc | apply pw_below_drewN)) Hb1.out⟩

end Go.Proofs.Ytkmfaiehhfjjmaa.V
