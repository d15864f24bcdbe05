/- Texts of this claim, laid together: TF71, M2, R1, TF73, R2. -/
import Derived.Test.YtlelhmephibfjaaB1
import Derived.Test.YtlelhmephibfjaaB9
import Derived.Test.YtlelhmephibfjaaB3
import Derived.StillTailTactics

namespace Go.Proofs.Ytlelhmephibfjaa.T
open Go.RowKit Go.Proofs.YtlelhmephibfjaaW.PrintWords Go.Proofs.YtlelhmephibfjaaW.PrintLast Go.Proofs.YtlelhmephibfjaaW.PrintMore
attribute [local go_sem] max2_int min2_int max_two min_two max_three min_three max_four min_four   -- for this text's walks alone
set_option linter.unusedVariables false
set_option linter.unusedSimpArgs false

/-! ### quietusref38_spied: function 71 -/
mutual
def quietusref38_spied.j0 : Nat → Bool → Int → List (S71) → Option (Int)
  | 0, _, _, _ => none
  | k + 1, x12, x312000, x312001 => if x12 = true then (some 1) else (if (x312001.length : Int) > 500 then (some 2) else (quietusref38_spied.l0 k 0 x312000 x312001))
def quietusref38_spied.l0 : Nat → Int → Int → List (S71) → Option (Int)
  | 0, _, _, _ => none
  | k + 1, x3, x312000, x312001 => if x3 < (x312001.length : Int) then (if 0 ≤ x3 then (if ((rd_T71 x312001 x3).f0) < 0 then (some 3) else (if ((rd_T71 x312001 x3).f0) > 11 then (some 3) else (if ((rd_T71 x312001 x3).f1) < 0 then (some 3) else (if ((rd_T71 x312001 x3).f1) > 1000000 then (some 3) else (quietusref38_spied.l0 k (wrap64 (x3 + 1)) x312000 x312001))))) else (none)) else (some 0)
end
def quietusref38_spied.f (k : Nat) (a0_0 : Int) (l0_1 : List (S71)) : Option (Int) := if a0_0 < 0 then (quietusref38_spied.j0 k true a0_0 l0_1) else (quietusref38_spied.j0 k (decide (a0_0 > 4095)) a0_0 l0_1)
theorem quietusref38_spied.mono_l : ∀ k, (∀ y0 y1 y2, LeO (quietusref38_spied.j0 k y0 y1 y2) (quietusref38_spied.j0 (k + 1) y0 y1 y2)) ∧ (∀ y0 y1 y2, LeO (quietusref38_spied.l0 k y0 y1 y2) (quietusref38_spied.l0 (k + 1) y0 y1 y2))
  | 0 => ⟨fun _ _ _ r h => by simp [quietusref38_spied.j0] at h, fun _ _ _ r h => by simp [quietusref38_spied.l0] at h⟩
  | k + 1 => by
    obtain ⟨ih0, ih1⟩ := quietusref38_spied.mono_l k
    refine ⟨?_, ?_⟩
    · intro y0 y1 y2
      unfold quietusref38_spied.j0
      repeat' first
      | (with_reducible exact ih0 _ _ _)
      | (with_reducible exact ih1 _ _ _)
      | (with_reducible exact LeO.refl _)
      | (with_reducible exact LeO.none _)
      | (with_reducible refine LeO.ite ?_ ?_)
      | (with_reducible refine LeO.bind ?_ (fun _ => ?_))
      | exact ih0 _ _ _
      | exact ih1 _ _ _
      | exact LeO.none _
      | refine LeO.ite ?_ ?_
      | refine LeO.bind ?_ (fun _ => ?_)
    · intro y0 y1 y2
      unfold quietusref38_spied.l0
      repeat' first
      | (with_reducible exact ih0 _ _ _)
      | (with_reducible exact ih1 _ _ _)
      | (with_reducible exact LeO.refl _)
      | (with_reducible exact LeO.none _)
      | (with_reducible refine LeO.ite ?_ ?_)
      | (with_reducible refine LeO.bind ?_ (fun _ => ?_))
      | exact ih0 _ _ _
      | exact ih1 _ _ _
      | exact LeO.none _
      | refine LeO.ite ?_ ?_
      | refine LeO.bind ?_ (fun _ => ?_)
theorem quietusref38_spied.mono : ∀ a0 a1 k, LeO (quietusref38_spied.f k a0 a1) (quietusref38_spied.f (k + 1) a0 a1) := by
  intro a0 a1 k
  obtain ⟨ih0, ih1⟩ := quietusref38_spied.mono_l k
  unfold quietusref38_spied.f
  repeat' first
      | (with_reducible exact ih0 _ _ _)
      | (with_reducible exact ih1 _ _ _)
      | (with_reducible exact LeO.refl _)
      | (with_reducible exact LeO.none _)
      | (with_reducible refine LeO.ite ?_ ?_)
      | (with_reducible refine LeO.bind ?_ (fun _ => ?_))
      | exact ih0 _ _ _
      | exact ih1 _ _ _
      | exact LeO.none _
      | refine LeO.ite ?_ ?_
      | refine LeO.bind ?_ (fun _ => ?_)
set_option maxHeartbeats 8000000 in
set_option maxRecDepth 100000 in
theorem quietusref38_spied.calls (k : Nat) (a0_0 : Int) (A0_1 : Option Addr) (c0_1 : Nat) (l0_1 : List (S71)) (r : Int) (w : World) (hr0_1 : Kd.C k71 w A0_1 l0_1.length l0_1) (hc0_1 : l0_1.length ≤ c0_1) (h : quietusref38_spied.f k a0_0 l0_1 = some r) :
    Calls Try.prog 71 #[.agg #[.int .i64 a0_0, .slice A0_1 l0_1.length c0_1]] w fun e w' => e = .returned (.int .i64 r) ∧ Below w.heap.size w w' := by
  have hu48 := Try.underlying48
  have hu71 := Try.underlying71
  have HR0_1 := Aside0.mk hr0_1
  have HC0_1 := Aside0.mk hc0_1
  clear hr0_1 hc0_1
  have HB := Aside0.mk (Below.refl w.heap.size w)
  have H : (if a0_0 < 0 then (quietusref38_spied.j0 k true a0_0 l0_1) else (quietusref38_spied.j0 k (decide (a0_0 > 4095)) a0_0 l0_1)) = some r := h
  clear h
  have HC2 := Aside0.mk H
  clear H
  go_enter Try.func71, Try.ntmps71
  go_upto_region 1 with (first | ((with_reducible refine gate_dst (N := 1) rfl ?_); refine box_event ?hg (N := 1) ?hd (cs := #[.int .i64 a0_0, .slice A0_1 l0_1.length c0_1]) (t := 48) ?hr ?_; (case hd => rfl); (case hg => rfl); (case hr => first | (go_simp; done) | (go_simp; rfl)); intro gb311 hg w3 hbox hb; have n0_ := Aside0.mk (below_step (by repeat (first | (with_reducible first | exact HB.out | apply below_alloc | apply pw_below_drewN | apply below_drew1) | exact HB.out)) hb); have n1_ := Aside0.mk (hbox); have n2_ := Aside0.mk ((by rw [hg]; exact (below_size (by repeat (first | (with_reducible first | exact HB.out | apply below_alloc | apply pw_below_drewN | apply below_drew1) | exact HB.out))) : w.heap.size ≤ gb311)); have n3_ := Aside0.mk ((by rw [hg]; exact (below_size (by repeat (first | (with_reducible first | exact HB.out | apply below_alloc | apply pw_below_drewN | apply below_drew1) | exact HB.out))) : w.heap.size ≤ gb311)); clear HB; have HB := n0_; have BK311 := n1_; have GW311 := n2_; have GE311 := n3_; clear n0_ n1_ n2_ n3_; clear hb hbox hg))
  (try simp only [Act.put, List.setIfInBounds_toArray, List.set_cons_zero, List.set_cons_succ])
  go_cut [12] (fun v12 wc => ∃ (kq : Nat) (x12_1 : Bool), v12 = .bool x12_1 ∧ Aside0 (quietusref38_spied.j0 kq x12_1 a0_0 l0_1 = some r) ∧ Aside0 (kq ≤ k) ∧ Aside0 (wc.heap[gb311]? = some (.cells #[.int .i64 a0_0, (.slice A0_1 l0_1.length c0_1)] 48 (0, 0))) ∧ Aside0 (Below w.heap.size w wc))
  case first =>
    have H := HC2.out
    clear HC2
    by_cases c4 : a0_0 < 0
    · rw [if_pos c4] at H
      have c4b0 : decide (a0_0 < 0) = true := decide_eq_true c4
      clear c4
      (first | rw [c4b0] | (simp only [i64_w, i32_w]; rw [c4b0]) | skip)
      have H' := Aside0.mk H
      clear H
      have hcz5_0 : w3.cell? ⟨gb311, 0, none⟩ = some (.int .i64 a0_0) := (blk_cell BK311.out 0).trans rfl
      have hcz5_1 : w3.cell? ⟨gb311, 1, none⟩ = some (.slice A0_1 l0_1.length c0_1) := (blk_cell BK311.out 1).trans rfl
      have hfz5_0 := blk_frozen BK311.out 0
      have hfz5_1 := blk_frozen BK311.out 1
      go_wp2
      go_meet
      case rel => exact ⟨_, (true), (by first | rfl | (simp; done) | (simp [*]; done)), H', ⟨by first | omega | exact Nat.le_refl _⟩, ⟨by (with_reducible repeat (first | refine blk_drewN ?_ _ | refine blk_drew ?_ | refine blk_alloc ?_ _)); exact BK311.out⟩, ⟨by repeat (first | (with_reducible first | exact HB.out | apply below_alloc | apply pw_below_drewN | apply below_drew1 | refine below_set ?_ GE311.out) | exact HB.out)⟩⟩
    · rw [if_neg c4] at H
      have c4b0 : decide (a0_0 < 0) = false := decide_eq_false c4
      clear c4
      (first | rw [c4b0] | (simp only [i64_w, i32_w]; rw [c4b0]) | skip)
      have H' := Aside0.mk H
      clear H
      have hcz6_0 : w3.cell? ⟨gb311, 0, none⟩ = some (.int .i64 a0_0) := (blk_cell BK311.out 0).trans rfl
      have hcz6_1 : w3.cell? ⟨gb311, 1, none⟩ = some (.slice A0_1 l0_1.length c0_1) := (blk_cell BK311.out 1).trans rfl
      have hfz6_0 := blk_frozen BK311.out 0
      have hfz6_1 := blk_frozen BK311.out 1
      go_wp2
      go_meet
      case rel => exact ⟨_, (decide (a0_0 > 4095)), (by first | rfl | (simp; done) | (simp [*]; done)), H', ⟨by first | omega | exact Nat.le_refl _⟩, ⟨by (with_reducible repeat (first | refine blk_drewN ?_ _ | refine blk_drew ?_ | refine blk_alloc ?_ _)); exact BK311.out⟩, ⟨by repeat (first | (with_reducible first | exact HB.out | apply below_alloc | apply pw_below_drewN | apply below_drew1 | refine below_set ?_ GE311.out) | exact HB.out)⟩⟩
  case rest =>
    clear HC2
    try clear p2
    try clear c4
    try clear c4b0
    try clear hcz5_0
    try clear hcz5_1
    try clear hcz6_0
    try clear hcz6_1
    try clear hfz5_0
    try clear hfz5_1
    try clear hfz6_0
    try clear hfz6_1
    obtain ⟨kq, x12_1, rfl, HA, HJ1, BK311, HB⟩ := hcut
    cases kq with
    | zero => exact absurd HA.out (by simp [quietusref38_spied.j0])
    | succ kj1 =>
      have H := HA.out
      clear HA
      simp only [quietusref38_spied.j0] at H
      by_cases c7 : x12_1 = true
      · subst c7
        have H1 : (some 1) = some r := by rw [if_pos rfl] at H; exact H
        clear H
        have H := H1
        clear H1
        obtain rfl := Option.some.inj H
        go_wp2
        go_ret
        exact ⟨by first | rfl | (simp [errW_none, errW_some] <;> rfl) | (simp [*, errW_none, errW_some] <;> rfl), by repeat (first | (with_reducible first | exact HB.out | apply below_alloc | apply pw_below_drewN | apply below_drew1 | refine below_set ?_ GE311.out) | exact HB.out)⟩
      · replace c7 := Bool.eq_false_iff.mpr c7
        subst c7
        have H1 : (if (l0_1.length : Int) > 500 then (some 2) else (quietusref38_spied.l0 kj1 0 a0_0 l0_1)) = some r := by rw [if_neg (show ¬ (false = true) by decide)] at H; exact H
        clear H
        have H := H1
        clear H1
        by_cases c8 : (l0_1.length : Int) > 500
        · rw [if_pos c8] at H
          have c8b0 : decide (500 < (l0_1.length : Int)) = true := decide_eq_true c8
          have c8b1 : decide (500 < l0_1.length) = true := decide_eq_true (by omega)
          clear c8
          obtain rfl := Option.some.inj H
          have hcz9_0 : wc.cell? ⟨gb311, 0, none⟩ = some (.int .i64 a0_0) := (blk_cell BK311.out 0).trans rfl
          have hcz9_1 : wc.cell? ⟨gb311, 1, none⟩ = some (.slice A0_1 l0_1.length c0_1) := (blk_cell BK311.out 1).trans rfl
          have hfz9_0 := blk_frozen BK311.out 0
          have hfz9_1 := blk_frozen BK311.out 1
          go_wp2
          go_ret
          exact ⟨by first | rfl | (simp [errW_none, errW_some] <;> rfl) | (simp [*, errW_none, errW_some] <;> rfl), by repeat (first | (with_reducible first | exact HB.out | apply below_alloc | apply pw_below_drewN | apply below_drew1 | refine below_set ?_ GE311.out) | exact HB.out)⟩
        · rw [if_neg c8] at H
          have c8b0 : decide (500 < (l0_1.length : Int)) = false := decide_eq_false c8
          have c8b1 : decide (500 < l0_1.length) = false := decide_eq_false (by omega)
          clear c8
          have H' := Aside0.mk H
          clear H
          have hcz10_0 : wc.cell? ⟨gb311, 0, none⟩ = some (.int .i64 a0_0) := (blk_cell BK311.out 0).trans rfl
          have hcz10_1 : wc.cell? ⟨gb311, 1, none⟩ = some (.slice A0_1 l0_1.length c0_1) := (blk_cell BK311.out 1).trans rfl
          have hfz10_0 := blk_frozen BK311.out 0
          have hfz10_1 := blk_frozen BK311.out 1
          go_wp2
          go_loopg [3] kj1 (fun kq v3 w' => ∃ (x3_2 : Int), v3 = .int .i64 x3_2 ∧ Aside0 (quietusref38_spied.l0 kq x3_2 a0_0 l0_1 = some r) ∧ Aside0 (kq ≤ kj1) ∧ Aside0 (w'.heap[gb311]? = some (.cells #[.int .i64 a0_0, (.slice A0_1 l0_1.length c0_1)] 48 (0, 0))) ∧ Aside0 (Below w.heap.size w w'))
          case atStart => exact ⟨(0), (by first | rfl | (simp; done) | (simp [*]; done)), H', ⟨Nat.le_refl _⟩, ⟨by (with_reducible repeat (first | refine blk_drewN ?_ _ | refine blk_drew ?_ | refine blk_alloc ?_ _)); exact BK311.out⟩, ⟨by repeat (first | (with_reducible first | exact HB.out | apply below_alloc | apply pw_below_drewN | apply below_drew1 | refine below_set ?_ GE311.out) | exact HB.out)⟩⟩
          case round =>
            clear H'
            try clear p2
            try clear c4
            try clear c4b0
            try clear c7
            try clear c8
            try clear c8b0
            try clear c8b1
            try clear hcz10_0
            try clear hcz10_1
            try clear hcz5_0
            try clear hcz5_1
            try clear hcz6_0
            try clear hcz6_1
            try clear hcz9_0
            try clear hcz9_1
            try clear hfz10_0
            try clear hfz10_1
            try clear hfz5_0
            try clear hfz5_1
            try clear hfz6_0
            try clear hfz6_1
            try clear hfz9_0
            try clear hfz9_1
            try clear p2
            obtain ⟨x3_2, rfl, HA, HK2, BK311, HB⟩ := hrel
            cases gk with
            | zero => exact absurd HA.out (by simp [quietusref38_spied.l0])
            | succ k2 =>
              have H := HA.out
              clear HA
              simp only [quietusref38_spied.l0] at H
              by_cases c11 : x3_2 < (l0_1.length : Int)
              · rw [if_pos c11] at H
                have c11b0 : decide (x3_2 < (l0_1.length : Int)) = true := decide_eq_true c11
                clear c11
                by_cases c12 : 0 ≤ x3_2
                · rw [if_pos c12] at H
                  have c12b0 : decide (0 ≤ x3_2) = true := decide_eq_true c12
                  clear c12
                  by_cases c13 : ((rd_T71 l0_1 x3_2).f0) < 0
                  · rw [if_pos c13] at H
                    have c13b0 : decide (((rd_T71 l0_1 x3_2).f0) < 0) = true := decide_eq_true c13
                    clear c13
                    obtain rfl := Option.some.inj H
                    have hcz14_0 : wr.cell? ⟨gb311, 0, none⟩ = some (.int .i64 a0_0) := (blk_cell BK311.out 0).trans rfl
                    have hcz14_1 : wr.cell? ⟨gb311, 1, none⟩ = some (.slice A0_1 l0_1.length c0_1) := (blk_cell BK311.out 1).trans rfl
                    have hfz14_0 := blk_frozen BK311.out 0
                    have hfz14_1 := blk_frozen BK311.out 1
                    have p312 : 0 ≤ (x3_2 : Int) := of_decide_eq_true (by first | (with_reducible assumption) | assumption)
                    have q312 : x3_2 < (l0_1.length : Int) := of_decide_eq_true (by first | (with_reducible assumption) | assumption)
                    obtain ⟨ad312, e312, hx312_0, hx312_1⟩ := at_T71 HR0_1.out x3_2 p312 q312
                    cases e312
                    replace hx312_0 := (HB.out.cell (World.block_lt_of_cell? w _ hx312_0)).trans hx312_0
                    replace hx312_1 := (HB.out.cell (World.block_lt_of_cell? w _ hx312_1)).trans hx312_1
                    replace p312 := eq_true p312
                    replace q312 := eq_true q312
                    go_wp2_with (first | ((with_reducible refine gate_dst (N := 4) rfl ?_); refine box_event ?hg (N := 4) ?hd (cs := #[.int .i64 0, .int .i64 0]) (t := 71) ?hr ?_; (case hd => rfl); (case hg => rfl); (case hr => first | (go_simp; done) | (go_simp; rfl)); intro gb313 hg w15 hbox hb; have n0_ := Aside0.mk (blk_below (g := gb311) (o := .cells #[.int .i64 a0_0, .slice (some ad312) l0_1.length c0_1] 48 (0, 0)) (by (with_reducible repeat (first | refine blk_drewN ?_ _ | refine blk_drew ?_ | refine blk_alloc ?_ _)); exact BK311.out) hb); have n1_ := Aside0.mk (below_step (by repeat (first | (with_reducible first | exact HB.out | apply below_alloc | apply pw_below_drewN | apply below_drew1 | refine below_set ?_ GE311.out) | exact HB.out)) hb); have n2_ := Aside0.mk (hbox); have n3_ := Aside0.mk ((by rw [hg]; exact (below_size (by repeat (first | (with_reducible first | exact HB.out | apply below_alloc | apply pw_below_drewN | apply below_drew1 | refine below_set ?_ GE311.out) | exact HB.out))) : w.heap.size ≤ gb313)); have n4_ := Aside0.mk ((by rw [hg]; exact (below_size (by repeat (first | (with_reducible first | exact HB.out | apply below_alloc | apply pw_below_drewN | apply below_drew1 | refine below_set ?_ GE311.out) | exact HB.out))) : w.heap.size ≤ gb313)); have n5_ := Aside0.mk ((by rw [hg]; exact Nat.ne_of_lt (blk_lt (g := gb311) (o := .cells #[.int .i64 a0_0, .slice (some ad312) l0_1.length c0_1] 48 (0, 0)) (by (with_reducible repeat (first | refine blk_drewN ?_ _ | refine blk_drew ?_ | refine blk_alloc ?_ _)); exact BK311.out)) : gb311 ≠ gb313)); have n6_ := Aside0.mk ((by rw [hg]; exact Nat.ne_of_gt (blk_lt (g := gb311) (o := .cells #[.int .i64 a0_0, .slice (some ad312) l0_1.length c0_1] 48 (0, 0)) (by (with_reducible repeat (first | refine blk_drewN ?_ _ | refine blk_drew ?_ | refine blk_alloc ?_ _)); exact BK311.out)) : gb313 ≠ gb311)); clear BK311; clear HB; have BK311 := n0_; have HB := n1_; have BK313 := n2_; have GW313 := n3_; have GE313 := n4_; have NB311_313 := n5_; have NB313_311 := n6_; clear n0_ n1_ n2_ n3_ n4_ n5_ n6_; clear hb hbox hg; have hnb16 := NB313_311.out; have hnc16 := NB311_313.out; have hcz17_0 : w15.cell? ⟨gb313, 0, none⟩ = some (.int .i64 0) := (blk_cell BK313.out 0).trans rfl; have hcz17_1 : w15.cell? ⟨gb313, 1, none⟩ = some (.int .i64 0) := (blk_cell BK313.out 1).trans rfl; have hfz17_0 := blk_frozen BK313.out 0; have hfz17_1 := blk_frozen BK313.out 1))
                    go_ret
                    exact ⟨by first | rfl | (simp [errW_none, errW_some] <;> rfl) | (simp [*, errW_none, errW_some] <;> rfl), by repeat (first | (with_reducible first | exact HB.out | apply below_alloc | apply pw_below_drewN | apply below_drew1 | refine below_set ?_ GE311.out | refine below_set ?_ GE313.out) | exact HB.out)⟩
                  · rw [if_neg c13] at H
                    have c13b0 : decide (((rd_T71 l0_1 x3_2).f0) < 0) = false := decide_eq_false c13
                    clear c13
                    by_cases c18 : ((rd_T71 l0_1 x3_2).f0) > 11
                    · rw [if_pos c18] at H
                      have c18b0 : decide (11 < ((rd_T71 l0_1 x3_2).f0)) = true := decide_eq_true c18
                      clear c18
                      obtain rfl := Option.some.inj H
                      have hcz19_0 : wr.cell? ⟨gb311, 0, none⟩ = some (.int .i64 a0_0) := (blk_cell BK311.out 0).trans rfl
                      have hcz19_1 : wr.cell? ⟨gb311, 1, none⟩ = some (.slice A0_1 l0_1.length c0_1) := (blk_cell BK311.out 1).trans rfl
                      have hfz19_0 := blk_frozen BK311.out 0
                      have hfz19_1 := blk_frozen BK311.out 1
                      have p312 : 0 ≤ (x3_2 : Int) := of_decide_eq_true (by first | (with_reducible assumption) | assumption)
                      have q312 : x3_2 < (l0_1.length : Int) := of_decide_eq_true (by first | (with_reducible assumption) | assumption)
                      obtain ⟨ad312, e312, hx312_0, hx312_1⟩ := at_T71 HR0_1.out x3_2 p312 q312
                      cases e312
                      replace hx312_0 := (HB.out.cell (World.block_lt_of_cell? w _ hx312_0)).trans hx312_0
                      replace hx312_1 := (HB.out.cell (World.block_lt_of_cell? w _ hx312_1)).trans hx312_1
                      replace p312 := eq_true p312
                      replace q312 := eq_true q312
                      go_wp2_with (first | ((with_reducible refine gate_dst (N := 4) rfl ?_); refine box_event ?hg (N := 4) ?hd (cs := #[.int .i64 0, .int .i64 0]) (t := 71) ?hr ?_; (case hd => rfl); (case hg => rfl); (case hr => first | (go_simp; done) | (go_simp; rfl)); intro gb313 hg w20 hbox hb; have n0_ := Aside0.mk (blk_below (g := gb311) (o := .cells #[.int .i64 a0_0, .slice (some ad312) l0_1.length c0_1] 48 (0, 0)) (by (with_reducible repeat (first | refine blk_drewN ?_ _ | refine blk_drew ?_ | refine blk_alloc ?_ _)); exact BK311.out) hb); have n1_ := Aside0.mk (below_step (by repeat (first | (with_reducible first | exact HB.out | apply below_alloc | apply pw_below_drewN | apply below_drew1 | refine below_set ?_ GE311.out) | exact HB.out)) hb); have n2_ := Aside0.mk (hbox); have n3_ := Aside0.mk ((by rw [hg]; exact (below_size (by repeat (first | (with_reducible first | exact HB.out | apply below_alloc | apply pw_below_drewN | apply below_drew1 | refine below_set ?_ GE311.out) | exact HB.out))) : w.heap.size ≤ gb313)); have n4_ := Aside0.mk ((by rw [hg]; exact (below_size (by repeat (first | (with_reducible first | exact HB.out | apply below_alloc | apply pw_below_drewN | apply below_drew1 | refine below_set ?_ GE311.out) | exact HB.out))) : w.heap.size ≤ gb313)); have n5_ := Aside0.mk ((by rw [hg]; exact Nat.ne_of_lt (blk_lt (g := gb311) (o := .cells #[.int .i64 a0_0, .slice (some ad312) l0_1.length c0_1] 48 (0, 0)) (by (with_reducible repeat (first | refine blk_drewN ?_ _ | refine blk_drew ?_ | refine blk_alloc ?_ _)); exact BK311.out)) : gb311 ≠ gb313)); have n6_ := Aside0.mk ((by rw [hg]; exact Nat.ne_of_gt (blk_lt (g := gb311) (o := .cells #[.int .i64 a0_0, .slice (some ad312) l0_1.length c0_1] 48 (0, 0)) (by (with_reducible repeat (first | refine blk_drewN ?_ _ | refine blk_drew ?_ | refine blk_alloc ?_ _)); exact BK311.out)) : gb313 ≠ gb311)); clear BK311; clear HB; have BK311 := n0_; have HB := n1_; have BK313 := n2_; have GW313 := n3_; have GE313 := n4_; have NB311_313 := n5_; have NB313_311 := n6_; clear n0_ n1_ n2_ n3_ n4_ n5_ n6_; clear hb hbox hg; have hnb21 := NB313_311.out; have hnc21 := NB311_313.out; have hcz22_0 : w20.cell? ⟨gb313, 0, none⟩ = some (.int .i64 0) := (blk_cell BK313.out 0).trans rfl; have hcz22_1 : w20.cell? ⟨gb313, 1, none⟩ = some (.int .i64 0) := (blk_cell BK313.out 1).trans rfl; have hfz22_0 := blk_frozen BK313.out 0; have hfz22_1 := blk_frozen BK313.out 1))
                      go_ret
                      exact ⟨by first | rfl | (simp [errW_none, errW_some] <;> rfl) | (simp [*, errW_none, errW_some] <;> rfl), by repeat (first | (with_reducible first | exact HB.out | apply below_alloc | apply pw_below_drewN | apply below_drew1 | refine below_set ?_ GE311.out | refine below_set ?_ GE313.out) | exact HB.out)⟩
                    · rw [if_neg c18] at H
                      have c18b0 : decide (11 < ((rd_T71 l0_1 x3_2).f0)) = false := decide_eq_false c18
                      clear c18
                      by_cases c23 : ((rd_T71 l0_1 x3_2).f1) < 0
                      · rw [if_pos c23] at H
                        have c23b0 : decide (((rd_T71 l0_1 x3_2).f1) < 0) = true := decide_eq_true c23
                        clear c23
                        obtain rfl := Option.some.inj H
                        have hcz24_0 : wr.cell? ⟨gb311, 0, none⟩ = some (.int .i64 a0_0) := (blk_cell BK311.out 0).trans rfl
                        have hcz24_1 : wr.cell? ⟨gb311, 1, none⟩ = some (.slice A0_1 l0_1.length c0_1) := (blk_cell BK311.out 1).trans rfl
                        have hfz24_0 := blk_frozen BK311.out 0
                        have hfz24_1 := blk_frozen BK311.out 1
                        have p312 : 0 ≤ (x3_2 : Int) := of_decide_eq_true (by first | (with_reducible assumption) | assumption)
                        have q312 : x3_2 < (l0_1.length : Int) := of_decide_eq_true (by first | (with_reducible assumption) | assumption)
                        obtain ⟨ad312, e312, hx312_0, hx312_1⟩ := at_T71 HR0_1.out x3_2 p312 q312
                        cases e312
                        replace hx312_0 := (HB.out.cell (World.block_lt_of_cell? w _ hx312_0)).trans hx312_0
                        replace hx312_1 := (HB.out.cell (World.block_lt_of_cell? w _ hx312_1)).trans hx312_1
                        replace p312 := eq_true p312
                        replace q312 := eq_true q312
                        go_wp2_with (first | ((with_reducible refine gate_dst (N := 4) rfl ?_); refine box_event ?hg (N := 4) ?hd (cs := #[.int .i64 0, .int .i64 0]) (t := 71) ?hr ?_; (case hd => rfl); (case hg => rfl); (case hr => first | (go_simp; done) | (go_simp; rfl)); intro gb313 hg w25 hbox hb; have n0_ := Aside0.mk (blk_below (g := gb311) (o := .cells #[.int .i64 a0_0, .slice (some ad312) l0_1.length c0_1] 48 (0, 0)) (by (with_reducible repeat (first | refine blk_drewN ?_ _ | refine blk_drew ?_ | refine blk_alloc ?_ _)); exact BK311.out) hb); have n1_ := Aside0.mk (below_step (by repeat (first | (with_reducible first | exact HB.out | apply below_alloc | apply pw_below_drewN | apply below_drew1 | refine below_set ?_ GE311.out) | exact HB.out)) hb); have n2_ := Aside0.mk (hbox); have n3_ := Aside0.mk ((by rw [hg]; exact (below_size (by repeat (first | (with_reducible first | exact HB.out | apply below_alloc | apply pw_below_drewN | apply below_drew1 | refine below_set ?_ GE311.out) | exact HB.out))) : w.heap.size ≤ gb313)); have n4_ := Aside0.mk ((by rw [hg]; exact (below_size (by repeat (first | (with_reducible first | exact HB.out | apply below_alloc | apply pw_below_drewN | apply below_drew1 | refine below_set ?_ GE311.out) | exact HB.out))) : w.heap.size ≤ gb313)); have n5_ := Aside0.mk ((by rw [hg]; exact Nat.ne_of_lt (blk_lt (g := gb311) (o := .cells #[.int .i64 a0_0, .slice (some ad312) l0_1.length c0_1] 48 (0, 0)) (by (with_reducible repeat (first | refine blk_drewN ?_ _ | refine blk_drew ?_ | refine blk_alloc ?_ _)); exact BK311.out)) : gb311 ≠ gb313)); have n6_ := Aside0.mk ((by rw [hg]; exact Nat.ne_of_gt (blk_lt (g := gb311) (o := .cells #[.int .i64 a0_0, .slice (some ad312) l0_1.length c0_1] 48 (0, 0)) (by (with_reducible repeat (first | refine blk_drewN ?_ _ | refine blk_drew ?_ | refine blk_alloc ?_ _)); exact BK311.out)) : gb313 ≠ gb311)); clear BK311; clear HB; have BK311 := n0_; have HB := n1_; have BK313 := n2_; have GW313 := n3_; have GE313 := n4_; have NB311_313 := n5_; have NB313_311 := n6_; clear n0_ n1_ n2_ n3_ n4_ n5_ n6_; clear hb hbox hg; have hnb26 := NB313_311.out; have hnc26 := NB311_313.out; have hcz27_0 : w25.cell? ⟨gb313, 0, none⟩ = some (.int .i64 0) := (blk_cell BK313.out 0).trans rfl; have hcz27_1 : w25.cell? ⟨gb313, 1, none⟩ = some (.int .i64 0) := (blk_cell BK313.out 1).trans rfl; have hfz27_0 := blk_frozen BK313.out 0; have hfz27_1 := blk_frozen BK313.out 1))
                        go_ret
                        exact ⟨by first | rfl | (simp [errW_none, errW_some] <;> rfl) | (simp [*, errW_none, errW_some] <;> rfl), by repeat (first | (with_reducible first | exact HB.out | apply below_alloc | apply pw_below_drewN | apply below_drew1 | refine below_set ?_ GE311.out | refine below_set ?_ GE313.out) | exact HB.out)⟩
                      · rw [if_neg c23] at H
                        have c23b0 : decide (((rd_T71 l0_1 x3_2).f1) < 0) = false := decide_eq_false c23
                        clear c23
                        by_cases c28 : ((rd_T71 l0_1 x3_2).f1) > 1000000
                        · rw [if_pos c28] at H
                          have c28b0 : decide (1000000 < ((rd_T71 l0_1 x3_2).f1)) = true := decide_eq_true c28
                          clear c28
                          obtain rfl := Option.some.inj H
                          have hcz29_0 : wr.cell? ⟨gb311, 0, none⟩ = some (.int .i64 a0_0) := (blk_cell BK311.out 0).trans rfl
                          have hcz29_1 : wr.cell? ⟨gb311, 1, none⟩ = some (.slice A0_1 l0_1.length c0_1) := (blk_cell BK311.out 1).trans rfl
                          have hfz29_0 := blk_frozen BK311.out 0
                          have hfz29_1 := blk_frozen BK311.out 1
                          have p312 : 0 ≤ (x3_2 : Int) := of_decide_eq_true (by first | (with_reducible assumption) | assumption)
                          have q312 : x3_2 < (l0_1.length : Int) := of_decide_eq_true (by first | (with_reducible assumption) | assumption)
                          obtain ⟨ad312, e312, hx312_0, hx312_1⟩ := at_T71 HR0_1.out x3_2 p312 q312
                          cases e312
                          replace hx312_0 := (HB.out.cell (World.block_lt_of_cell? w _ hx312_0)).trans hx312_0
                          replace hx312_1 := (HB.out.cell (World.block_lt_of_cell? w _ hx312_1)).trans hx312_1
                          replace p312 := eq_true p312
                          replace q312 := eq_true q312
                          go_wp2_with (first | ((with_reducible refine gate_dst (N := 4) rfl ?_); refine box_event ?hg (N := 4) ?hd (cs := #[.int .i64 0, .int .i64 0]) (t := 71) ?hr ?_; (case hd => rfl); (case hg => rfl); (case hr => first | (go_simp; done) | (go_simp; rfl)); intro gb313 hg w30 hbox hb; have n0_ := Aside0.mk (blk_below (g := gb311) (o := .cells #[.int .i64 a0_0, .slice (some ad312) l0_1.length c0_1] 48 (0, 0)) (by (with_reducible repeat (first | refine blk_drewN ?_ _ | refine blk_drew ?_ | refine blk_alloc ?_ _)); exact BK311.out) hb); have n1_ := Aside0.mk (below_step (by repeat (first | (with_reducible first | exact HB.out | apply below_alloc | apply pw_below_drewN | apply below_drew1 | refine below_set ?_ GE311.out) | exact HB.out)) hb); have n2_ := Aside0.mk (hbox); have n3_ := Aside0.mk ((by rw [hg]; exact (below_size (by repeat (first | (with_reducible first | exact HB.out | apply below_alloc | apply pw_below_drewN | apply below_drew1 | refine below_set ?_ GE311.out) | exact HB.out))) : w.heap.size ≤ gb313)); have n4_ := Aside0.mk ((by rw [hg]; exact (below_size (by repeat (first | (with_reducible first | exact HB.out | apply below_alloc | apply pw_below_drewN | apply below_drew1 | refine below_set ?_ GE311.out) | exact HB.out))) : w.heap.size ≤ gb313)); have n5_ := Aside0.mk ((by rw [hg]; exact Nat.ne_of_lt (blk_lt (g := gb311) (o := .cells #[.int .i64 a0_0, .slice (some ad312) l0_1.length c0_1] 48 (0, 0)) (by (with_reducible repeat (first | refine blk_drewN ?_ _ | refine blk_drew ?_ | refine blk_alloc ?_ _)); exact BK311.out)) : gb311 ≠ gb313)); have n6_ := Aside0.mk ((by rw [hg]; exact Nat.ne_of_gt (blk_lt (g := gb311) (o := .cells #[.int .i64 a0_0, .slice (some ad312) l0_1.length c0_1] 48 (0, 0)) (by (with_reducible repeat (first | refine blk_drewN ?_ _ | refine blk_drew ?_ | refine blk_alloc ?_ _)); exact BK311.out)) : gb313 ≠ gb311)); clear BK311; clear HB; have BK311 := n0_; have HB := n1_; have BK313 := n2_; have GW313 := n3_; have GE313 := n4_; have NB311_313 := n5_; have NB313_311 := n6_; clear n0_ n1_ n2_ n3_ n4_ n5_ n6_; clear hb hbox hg; have hnb31 := NB313_311.out; have hnc31 := NB311_313.out; have hcz32_0 : w30.cell? ⟨gb313, 0, none⟩ = some (.int .i64 0) := (blk_cell BK313.out 0).trans rfl; have hcz32_1 : w30.cell? ⟨gb313, 1, none⟩ = some (.int .i64 0) := (blk_cell BK313.out 1).trans rfl; have hfz32_0 := blk_frozen BK313.out 0; have hfz32_1 := blk_frozen BK313.out 1))
                          go_ret
                          exact ⟨by first | rfl | (simp [errW_none, errW_some] <;> rfl) | (simp [*, errW_none, errW_some] <;> rfl), by repeat (first | (with_reducible first | exact HB.out | apply below_alloc | apply pw_below_drewN | apply below_drew1 | refine below_set ?_ GE311.out | refine below_set ?_ GE313.out) | exact HB.out)⟩
                        · rw [if_neg c28] at H
                          have c28b0 : decide (1000000 < ((rd_T71 l0_1 x3_2).f1)) = false := decide_eq_false c28
                          clear c28
                          have H' := Aside0.mk H
                          clear H
                          have hcz33_0 : wr.cell? ⟨gb311, 0, none⟩ = some (.int .i64 a0_0) := (blk_cell BK311.out 0).trans rfl
                          have hcz33_1 : wr.cell? ⟨gb311, 1, none⟩ = some (.slice A0_1 l0_1.length c0_1) := (blk_cell BK311.out 1).trans rfl
                          have hfz33_0 := blk_frozen BK311.out 0
                          have hfz33_1 := blk_frozen BK311.out 1
                          have p312 : 0 ≤ (x3_2 : Int) := of_decide_eq_true (by first | (with_reducible assumption) | assumption)
                          have q312 : x3_2 < (l0_1.length : Int) := of_decide_eq_true (by first | (with_reducible assumption) | assumption)
                          obtain ⟨ad312, e312, hx312_0, hx312_1⟩ := at_T71 HR0_1.out x3_2 p312 q312
                          cases e312
                          replace hx312_0 := (HB.out.cell (World.block_lt_of_cell? w _ hx312_0)).trans hx312_0
                          replace hx312_1 := (HB.out.cell (World.block_lt_of_cell? w _ hx312_1)).trans hx312_1
                          replace p312 := eq_true p312
                          replace q312 := eq_true q312
                          go_wp2_with (first | ((with_reducible refine gate_dst (N := 4) rfl ?_); refine box_event ?hg (N := 4) ?hd (cs := #[.int .i64 0, .int .i64 0]) (t := 71) ?hr ?_; (case hd => rfl); (case hg => rfl); (case hr => first | (go_simp; done) | (go_simp; rfl)); intro gb313 hg w34 hbox hb; have n0_ := Aside0.mk (blk_below (g := gb311) (o := .cells #[.int .i64 a0_0, .slice (some ad312) l0_1.length c0_1] 48 (0, 0)) (by (with_reducible repeat (first | refine blk_drewN ?_ _ | refine blk_drew ?_ | refine blk_alloc ?_ _)); exact BK311.out) hb); have n1_ := Aside0.mk (below_step (by repeat (first | (with_reducible first | exact HB.out | apply below_alloc | apply pw_below_drewN | apply below_drew1 | refine below_set ?_ GE311.out) | exact HB.out)) hb); have n2_ := Aside0.mk (hbox); have n3_ := Aside0.mk ((by rw [hg]; exact (below_size (by repeat (first | (with_reducible first | exact HB.out | apply below_alloc | apply pw_below_drewN | apply below_drew1 | refine below_set ?_ GE311.out) | exact HB.out))) : w.heap.size ≤ gb313)); have n4_ := Aside0.mk ((by rw [hg]; exact (below_size (by repeat (first | (with_reducible first | exact HB.out | apply below_alloc | apply pw_below_drewN | apply below_drew1 | refine below_set ?_ GE311.out) | exact HB.out))) : w.heap.size ≤ gb313)); have n5_ := Aside0.mk ((by rw [hg]; exact Nat.ne_of_lt (blk_lt (g := gb311) (o := .cells #[.int .i64 a0_0, .slice (some ad312) l0_1.length c0_1] 48 (0, 0)) (by (with_reducible repeat (first | refine blk_drewN ?_ _ | refine blk_drew ?_ | refine blk_alloc ?_ _)); exact BK311.out)) : gb311 ≠ gb313)); have n6_ := Aside0.mk ((by rw [hg]; exact Nat.ne_of_gt (blk_lt (g := gb311) (o := .cells #[.int .i64 a0_0, .slice (some ad312) l0_1.length c0_1] 48 (0, 0)) (by (with_reducible repeat (first | refine blk_drewN ?_ _ | refine blk_drew ?_ | refine blk_alloc ?_ _)); exact BK311.out)) : gb313 ≠ gb311)); clear BK311; clear HB; have BK311 := n0_; have HB := n1_; have BK313 := n2_; have GW313 := n3_; have GE313 := n4_; have NB311_313 := n5_; have NB313_311 := n6_; clear n0_ n1_ n2_ n3_ n4_ n5_ n6_; clear hb hbox hg; have hnb35 := NB313_311.out; have hnc35 := NB311_313.out; have hcz36_0 : w34.cell? ⟨gb313, 0, none⟩ = some (.int .i64 0) := (blk_cell BK313.out 0).trans rfl; have hcz36_1 : w34.cell? ⟨gb313, 1, none⟩ = some (.int .i64 0) := (blk_cell BK313.out 1).trans rfl; have hfz36_0 := blk_frozen BK313.out 0; have hfz36_1 := blk_frozen BK313.out 1))
                          go_roundg k2
                          case measure => have := HJ1.out; have := HK2.out; omega
                          case rel => exact ⟨(wrap64 (x3_2 + 1)), (by first | rfl | (simp; done) | (simp [*]; done)), H', ⟨by have := HJ1.out; have := HK2.out; omega⟩, ⟨by (with_reducible repeat (first | refine blk_drewN ?_ _ | refine blk_drew ?_ | refine blk_alloc ?_ _)); refine blk_far ?_ NB311_313.out _; (with_reducible repeat (first | refine blk_drewN ?_ _ | refine blk_drew ?_ | refine blk_alloc ?_ _)); refine blk_far ?_ NB311_313.out _; (with_reducible repeat (first | refine blk_drewN ?_ _ | refine blk_drew ?_ | refine blk_alloc ?_ _)); exact BK311.out⟩, ⟨by repeat (first | (with_reducible first | exact HB.out | apply below_alloc | apply pw_below_drewN | apply below_drew1 | refine below_set ?_ GE311.out | refine below_set ?_ GE313.out) | exact HB.out)⟩⟩
                · rw [if_neg c12] at H
                  exact absurd H (by simp)
              · rw [if_neg c11] at H
                have c11b0 : decide (x3_2 < (l0_1.length : Int)) = false := decide_eq_false c11
                clear c11
                obtain rfl := Option.some.inj H
                have hcz37_0 : wr.cell? ⟨gb311, 0, none⟩ = some (.int .i64 a0_0) := (blk_cell BK311.out 0).trans rfl
                have hcz37_1 : wr.cell? ⟨gb311, 1, none⟩ = some (.slice A0_1 l0_1.length c0_1) := (blk_cell BK311.out 1).trans rfl
                have hfz37_0 := blk_frozen BK311.out 0
                have hfz37_1 := blk_frozen BK311.out 1
                go_wp2
                go_ret
                exact ⟨by first | rfl | (simp [errW_none, errW_some] <;> rfl) | (simp [*, errW_none, errW_some] <;> rfl), by repeat (first | (with_reducible first | exact HB.out | apply below_alloc | apply pw_below_drewN | apply below_drew1 | refine below_set ?_ GE311.out) | exact HB.out)⟩

end Go.Proofs.Ytlelhmephibfjaa.T

namespace Go.Proofs.Ytlelhmephibfjaa.T
set_option linter.unusedVariables false
set_option linter.unusedSimpArgs false
open Go.RowKit Go.Proofs.YtlelhmephibfjaaW.PrintWords Go.Proofs.YtlelhmephibfjaaW.PrintLast Go.Proofs.YtlelhmephibfjaaW.PrintMore

theorem wrap_succ (j : Nat) (h : j ≤ 1000000) : wrap64 ((j : Int) + 1) = ((j + 1 : Nat) : Int) := by rw [w64 _ (by omega) (by omega)]; omega

/-! ### a house in a set -/
theorem in_loop (h : Nat) (hh : h ≤ 1000) : ∀ (d j : Nat) (x : Nat), j + d = h → x < 2 ^ 62 → Ev (fun k => quietusref08_In.l0 k (x : Int) (h : Int) (j : Int)) (Nat.testBit x d)
  | 0, j, x, hj, hx => by
    refine ev_step1 fun k => ?_
    simp only [quietusref08_In.l0]
    rw [if_neg (by omega)]
    congr 1
    have e : Int.tmod (x : Int) 2 = ((x % 2 : Nat) : Int) := rfl
    rw [e, Nat.testBit_zero]
    rcases Nat.mod_two_eq_zero_or_one x with h | h <;> rw [h] <;> rfl
  | d + 1, j, x, hj, hx => by
    have e : Int.tdiv (x : Int) 2 = ((x / 2 : Nat) : Int) := rfl
    refine Ev.step (f := fun k => quietusref08_In.l0 k ((x / 2 : Nat) : Int) (h : Int) ((j + 1 : Nat) : Int)) (fun k => ?_) ?_
    · simp only [quietusref08_In.l0]
      rw [if_pos (by omega), e, wrap_succ j (by omega), w64 ((x / 2 : Nat) : Int) (by omega) (by omega)]
    · rw [Nat.testBit_succ]
      exact in_loop h hh d (j + 1) (x / 2) (by omega) (by omega)
theorem in_r (x h : Int) (h0 : 0 ≤ x) (h1 : x < 2 ^ 62) (g0 : 0 ≤ h) (g1 : h ≤ 1000) : Ev (fun k => quietusref08_In.f k x h) (Nat.testBit x.toNat h.toNat) := by
  obtain ⟨n, rfl⟩ := Int.eq_ofNat_of_zero_le h0
  obtain ⟨m, rfl⟩ := Int.eq_ofNat_of_zero_le g0
  have := in_loop m (by omega) m 0 n (by omega) (by omega)
  exact this
def seesR (bad : Int) (caps : List S71) (a : S25) : Bool := (Nat.testBit bad.toNat a.f4.toNat && decide (a.f6 < a.f7)) || caps.any (capS a)
set_option maxHeartbeats 4000000 in
set_option maxRecDepth 100000 in
theorem rsees_calls (bad : Int) (A : Option Addr) (c : Nat) (caps : List S71) (a : S25) (A3 : Option Addr) (c3 : Nat) (w : World) (hr : Kd.C k71 w A caps.length caps) (hl : caps.length ≤ 1000000) (hi : Kd.C (Kd.int .i64) w A3 a.f3.length a.f3) (hc3 : a.f3.length ≤ c3)
    (b0 : 0 ≤ bad) (b1 : bad ≤ 4095) (g0 : 0 ≤ a.f4) (g1 : a.f4 ≤ 11) :
    Calls Try.prog 72 #[.agg #[.int .i64 bad, .slice A caps.length c], .agg #[.int .i64 a.f0, .int .i64 a.f1, .int .i64 a.f2, .slice A3 a.f3.length c3, .int .i64 a.f4, .int .i64 a.f5, .int .i64 a.f6, .int .i64 a.f7, .int .i64 a.f8, .int .i64 a.f9]] w fun e w' => e = .returned (.bool (seesR bad caps a)) ∧ Below w.heap.size w w' := by
  have hu25 := Try.underlying25
  have hu48 := Try.underlying48
  have hu71 := Try.underlying71
  have HR := Aside0.mk hr
  have HI := Aside0.mk hi
  obtain ⟨ki, hki⟩ := (in_r bad a.f4 b0 (by omega) g0 (by omega)).rounds
  have HKI := Aside0.mk hki
  clear hr hi hki
  go_enter Try.func72, Try.ntmps72
  go_upto_region 1 with (fail)
  have K2 := Aside0.mk (blk_alloc (blk_new w (.cells #[.int .i64 bad, .slice A caps.length c] 48)) (.cells #[.int .i64 a.f0, .int .i64 a.f1, .int .i64 a.f2, .slice A3 a.f3.length c3, .int .i64 a.f4, .int .i64 a.f5, .int .i64 a.f6, .int .i64 a.f7, .int .i64 a.f8, .int .i64 a.f9] 25))
  have K3 := Aside0.mk (blk_new (w.alloc (.cells #[.int .i64 bad, .slice A caps.length c] 48)) (.cells #[.int .i64 a.f0, .int .i64 a.f1, .int .i64 a.f2, .slice A3 a.f3.length c3, .int .i64 a.f4, .int .i64 a.f5, .int .i64 a.f6, .int .i64 a.f7, .int .i64 a.f8, .int .i64 a.f9] 25))
  rw [World.size_alloc] at K3
  have HB : Aside0 (Below w.heap.size w ((w.alloc (.cells #[.int .i64 bad, .slice A caps.length c] 48)).alloc (.cells #[.int .i64 a.f0, .int .i64 a.f1, .int .i64 a.f2, .slice A3 a.f3.length c3, .int .i64 a.f4, .int .i64 a.f5, .int .i64 a.f6, .int .i64 a.f7, .int .i64 a.f8, .int .i64 a.f9] 25))) := ⟨below_alloc (below_alloc (Below.refl _ _) _) _⟩
  replace HR := Aside0.mk (Kd.C_below HR.out HB.out)
  replace HI := Aside0.mk (Kd.C_below HI.out HB.out)
  generalize ((w.alloc (.cells #[.int .i64 bad, .slice A caps.length c] 48)).alloc (.cells #[.int .i64 a.f0, .int .i64 a.f1, .int .i64 a.f2, .slice A3 a.f3.length c3, .int .i64 a.f4, .int .i64 a.f5, .int .i64 a.f6, .int .i64 a.f7, .int .i64 a.f8, .int .i64 a.f9] 25)) = w0 at *
  have k2 := blk_cell K2.out
  have k3 := blk_cell K3.out
  go_wp2_with fail
  refine (quietusref08_In.calls ki bad a.f4 _ _ HKI.out).mono ?_
  rintro e w1 ⟨rfl, hb⟩
  replace hb := hb.below
  replace HB := Aside0.mk (below_step HB.out hb)
  replace HR := Aside0.mk (Kd.C_below HR.out hb)
  replace HI := Aside0.mk (Kd.C_below HI.out hb)
  replace K2 := Aside0.mk (blk_below K2.out hb)
  replace K3 := Aside0.mk (blk_below K3.out hb)
  clear hb k2 k3 HKI
  have k2 := blk_cell K2.out
  have k3 := blk_cell K3.out
  go_upto_region 2 with (fail)
  go_cut [20] (fun v wc => v = .bool (Nat.testBit bad.toNat a.f4.toNat && decide (a.f6 < a.f7)) ∧ wc = w1)
  case first =>
    generalize Nat.testBit bad.toNat a.f4.toNat = q at *
    cases q with
    | false =>
      go_wp2
      go_meet
      case rel => exact ⟨rfl, rfl⟩
    | true =>
      go_wp2
      all_goals go_meet
      all_goals (case rel => exact ⟨by first | rfl | (simp [*]; done), rfl⟩)
  case rest =>
  obtain ⟨rfl, rfl⟩ := hcut
  obtain ⟨w1, rfl⟩ : ∃ w1 : World, w1 = wc := ⟨_, rfl⟩
  have HE : Aside0 (seesR bad caps a = ((Nat.testBit bad.toNat a.f4.toNat && decide (a.f6 < a.f7)) || caps.any (capS a))) := ⟨rfl⟩
  generalize (Nat.testBit bad.toNat a.f4.toNat && decide (a.f6 < a.f7)) = b at *
  cases b with
  | true =>
    go_wp2
    go_ret
    exact ⟨by rw [HE.out]; rfl, HB.out⟩
  | false =>
  replace HE := Aside0.mk (HE.out.trans (Bool.false_or _))
  clear k2 k3
  go_wp2
  go_loopw [6] (fun v wr => ∃ j : Nat, v = .int .i64 j ∧ j ≤ caps.length ∧ Aside0 ((caps.take j).any (capS a) = false) ∧ Aside0 (Below w1.heap.size w1 wr)) (fun v _ => caps.length - (intOf v).toNat)
  case atStart => exact ⟨0, rfl, by omega, ⟨by simp⟩, ⟨Below.refl _ _⟩⟩
  case round =>
    obtain ⟨j, rfl, hj, HA, HB2⟩ := hrel
    have k2 := blk_cell (blk_below K2.out HB2.out)
    have k3 := blk_cell (blk_below K3.out HB2.out)
    by_cases hlt : j < caps.length
    · obtain ⟨ad, e1, x0, x1⟩ := at_T71 (Kd.C_below HR.out HB2.out) (j : Int) (by omega) (by omega)
      subst e1
      have hrd : rd_T71 caps (j : Int) = caps[j] := by simp [rd_T71, List.getD_eq_getElem?_getD, List.getElem?_eq_getElem hlt]
      rw [hrd, Int.toNat_natCast] at x0 x1
      have ht : caps.take (j + 1) = caps.take j ++ [caps[j]] := by rw [List.take_succ_eq_append_getElem hlt]
      have HA2 : Aside0 (capS a caps[j] = false → (caps.take (j + 1)).any (capS a) = false) := ⟨fun h => by rw [ht, List.any_append, HA.out]; simp [h]⟩
      have HA3 : Aside0 (capS a caps[j] = true → seesR bad caps a = true) := ⟨fun h => by rw [HE.out]; exact List.any_eq_true.2 ⟨_, List.getElem_mem hlt, h⟩⟩
      have hrd2 := Aside0.mk hrd
      clear hrd ht HA
      generalize caps[j] = x at *
      go_wp2_with fail
      go_still_tail 7, (by kernel_rfl)
      change wpList _ _ _ _ _ wr.drew
      have HB3 := Aside0.mk (below_drew HB2.out)
      clear k2 k3 x0 x1
      generalize wr.drew = w2 at *
      go_wp2_with fail
      refine (quietusref38_There.calls _ _ _ A3 c3 a.f3 _ _ _ _ _ _ x.f1 _ _ (Kd.C_below HI.out HB3.out) hc3 (there_r a x.f1)).mono ?_
      rintro e w3 ⟨rfl, hb⟩
      replace HB3 := Aside0.mk (below_step HB3.out hb)
      clear hb
      have k2 := blk_cell (blk_below K2.out HB3.out)
      have k3 := blk_cell (blk_below K3.out HB3.out)
      obtain ⟨ad', e1, x0, x1⟩ := at_T71 (Kd.C_below HR.out HB3.out) (j : Int) (by omega) (by omega)
      cases e1
      rw [hrd2.out, Int.toNat_natCast] at x0 x1
      have HC : Aside0 (capS a x = (decide (x.f0 = a.f4) && thereS a x.f1)) := ⟨rfl⟩
      generalize thereS a x.f1 = th at *
      cases th with
      | false =>
        have HA := Aside0.mk (HA2.out (by rw [HC.out]; simp))
        clear HA2 HA3 HC
        go_wp2_with fail
        go_quiet (fail)
        clear k2 k3 x0 x1
        go_wp2
        go_roundw
        case rel => exact ⟨j + 1, by go_num, by omega, HA, ⟨pw_below_drewN HB3.out _⟩⟩
        case measure => simp [intOf]; omega
      | true =>
        by_cases h4 : x.f0 = a.f4
        · have g4 : (x.f0 == a.f4) = true := by simpa using h4
          have HT := Aside0.mk (HA3.out (by rw [HC.out]; simp [h4]))
          clear HA2 HA3 HC h4
          go_wp2_with fail
          go_quiet (fail)
          clear k2 k3 x0 x1
          go_wp2
          go_ret
          exact ⟨by rw [HT.out]; rfl, below_step HB.out (pw_below_drewN HB3.out _)⟩
        · have g4 : (x.f0 == a.f4) = false := by simpa using h4
          have HA := Aside0.mk (HA2.out (by rw [HC.out]; simp [h4]))
          clear HA2 HA3 HC h4
          go_wp2_with fail
          go_quiet (fail)
          clear k2 k3 x0 x1
          go_wp2
          go_roundw
          case rel => exact ⟨j + 1, by go_num, by omega, HA, ⟨pw_below_drewN HB3.out _⟩⟩
          case measure => simp [intOf]; omega
    · have HF : Aside0 (seesR bad caps a = false) := ⟨by
        have e : caps.take j = caps := List.take_of_length_le (by omega)
        rw [HE.out, ← e]; exact HA.out⟩
      clear HA HE
      go_wp2
      go_ret
      exact ⟨by rw [HF.out]; rfl, below_step HB.out HB2.out⟩
end Go.Proofs.Ytlelhmephibfjaa.T

namespace Go.Proofs.Ytlelhmephibfjaa.T
set_option linter.unusedVariables false
set_option linter.unusedSimpArgs false
open Go.RowKit Go.Proofs.YtlelhmephibfjaaW.PrintWords Go.Proofs.YtlelhmephibfjaaW.PrintLast Go.Proofs.YtlelhmephibfjaaW.PrintMore

/-- a loop over a list, round by round -/
theorem fold_loop {α σ ρ : Type} (g : Nat → σ → Int → Option ρ) (l : List α) (st : σ → α → σ) (fin : σ → ρ) (Inv : Nat → σ → Prop)
    (hinv : ∀ j (h : j < l.length) s, Inv j s → Inv (j + 1) (st s l[j]))
    (hstep : ∀ j (h : j < l.length) s, Inv j s → ∀ r, Ev (fun k => g k (st s l[j]) ((j + 1 : Nat) : Int)) r → Ev (fun k => g k s (j : Int)) r)
    (hend : ∀ s, Inv l.length s → Ev (fun k => g k s (l.length : Int)) (fin s)) :
    ∀ (d j : Nat) (s : σ), j + d = l.length → Inv j s → Ev (fun k => g k s (j : Int)) (fin ((l.drop j).foldl st s))
  | 0, j, s, hj, hi => by
    rw [List.drop_eq_nil_of_le (by omega)]
    have e : j = l.length := by omega
    subst e
    exact hend s hi
  | d + 1, j, s, hj, hi => by
    have hlt : j < l.length := by omega
    rw [List.drop_eq_getElem_cons hlt, List.foldl_cons]
    exact hstep j hlt s hi _ (fold_loop g l st fin Inv hinv hstep hend d (j + 1) (st s l[j]) (by omega) (hinv j hlt s hi))
theorem foldl_collect {α β : Type} (p : α → Bool) (f : α → β) : ∀ (l : List α) (acc : List β), l.foldl (fun acc a => if p a = true then acc ++ [f a] else acc) acc = acc ++ (l.filter p).map f
  | [], acc => by simp
  | a :: r, acc => by
    rw [List.foldl_cons, foldl_collect p f r]
    by_cases h : p a = true
    · rw [if_pos h, List.filter_cons_of_pos h, List.map_cons]; simp
    · rw [if_neg h, List.filter_cons_of_neg h]
theorem orS_nat (s h : Nat) (h0 : s < 4096) (h1 : h < 12) : orS (s : Int) (h : Int) = ((s ||| 2 ^ h : Nat) : Int) ∧ s ||| 2 ^ h < 4096 := by
  have hp : (2 : Nat) ^ h < 4096 := by
    have : (2 : Nat) ^ h ≤ 2 ^ 11 := Nat.pow_le_pow_right (by decide) (by omega)
    omega
  have hr : s ||| 2 ^ h < 2 ^ 12 := Nat.or_lt_two_pow h0 hp
  refine ⟨?_, hr⟩
  unfold orS
  have e : IntKind.i64.wrap ((2 : Int) ^ ((h : Int).toNat)) = ((2 ^ h : Nat) : Int) := by
    rw [IntKind.wrap_i64, Int.toNat_natCast]
    have : ((2 : Int) ^ h) = ((2 ^ h : Nat) : Int) := by simp
    rw [this]
    generalize (2 : Nat) ^ h = q at *
    omega
  rw [e]
  clear e
  generalize (2 : Nat) ^ h = q at *
  show IntKind.i64.wrap (((BitVec.ofInt 64 (s : Int) ||| BitVec.ofInt 64 (q : Int)).toNat : Nat) : Int) = _
  rw [show (BitVec.ofInt 64 (s : Int)) = BitVec.ofNat 64 s by simp, show (BitVec.ofInt 64 (q : Int)) = BitVec.ofNat 64 q by simp, BitVec.toNat_or, BitVec.toNat_ofNat, BitVec.toNat_ofNat, Nat.mod_eq_of_lt (by omega), Nat.mod_eq_of_lt (by omega), IntKind.wrap_i64]
  omega
theorem or_bit (s h : Nat) (h0 : s < 4096) (h1 : h < 12) : s ||| 2 ^ h = if Nat.testBit s h = true then s else s + 2 ^ h := by
  have hp : (2 : Nat) ^ h < 4096 := by
    have : (2 : Nat) ^ h ≤ 2 ^ 11 := Nat.pow_le_pow_right (by decide) (by omega)
    omega
  split
  · rename_i ht
    refine Nat.eq_of_testBit_eq fun i => ?_
    rw [Nat.testBit_or, Nat.testBit_two_pow]
    by_cases e : h = i
    · subst e; simp [ht]
    · simp [e]
  · rename_i ht
    have hz : BitVec.ofNat 64 s &&& BitVec.ofNat 64 (2 ^ h) = 0#64 := by
      refine BitVec.eq_of_toNat_eq ?_
      rw [BitVec.toNat_and, BitVec.toNat_ofNat, BitVec.toNat_ofNat, Nat.mod_eq_of_lt (by omega), Nat.mod_eq_of_lt (by omega)]
      refine Nat.eq_of_testBit_eq fun i => ?_
      rw [Nat.testBit_and, Nat.testBit_two_pow]
      by_cases e : h = i
      · subst e; simp [ht]
      · simp [e]
    have h2 := congrArg BitVec.toNat (BitVec.add_eq_or_of_and_eq_zero _ _ hz)
    rw [BitVec.toNat_or, BitVec.toNat_add, BitVec.toNat_ofNat, BitVec.toNat_ofNat, Nat.mod_eq_of_lt (a := s) (by omega), Nat.mod_eq_of_lt (a := 2 ^ h) (by omega), Nat.mod_eq_of_lt (by omega)] at h2
    exact h2.symm
theorem join_loop (s h : Nat) (h0 : s < 4096) (h1 : h < 12) : ∀ (d j : Nat), j + d = h → Ev (fun k => quietusref38_join.l0 k (s : Int) (h : Int) ((2 ^ j : Nat) : Int) (j : Int)) ((s + 2 ^ h : Nat) : Int)
  | 0, j, hj => by
    obtain rfl : j = h := by omega
    have hp : (2 : Nat) ^ j ≤ 2 ^ 11 := Nat.pow_le_pow_right (by decide) (by omega)
    refine ev_step1 fun k => ?_
    simp only [quietusref38_join.l0]
    generalize (2 : Nat) ^ j = q at *
    rw [if_neg (by omega), w64 _ (by omega) (by omega)]
    rfl
  | d + 1, j, hj => by
    have hp : (2 : Nat) ^ j ≤ 2 ^ 11 := Nat.pow_le_pow_right (by decide) (by omega)
    refine Ev.step (fun k => ?_) (join_loop s h h0 h1 d (j + 1) (by omega))
    simp only [quietusref38_join.l0]
    rw [Nat.pow_succ]
    generalize (2 : Nat) ^ j = q at *
    rw [if_pos (by omega), wrap_succ j (by omega), w64 _ (by omega) (by omega)]
    congr 1
    omega
theorem join_r (s h : Int) (h0 : 0 ≤ s) (h1 : s ≤ 4095) (g0 : 0 ≤ h) (g1 : h ≤ 11) : Ev (fun k => quietusref38_join.f k s h) (orS s h) ∧ 0 ≤ orS s h ∧ orS s h ≤ 4095 := by
  obtain ⟨n, rfl⟩ := Int.eq_ofNat_of_zero_le h0
  obtain ⟨m, rfl⟩ := Int.eq_ofNat_of_zero_le g0
  obtain ⟨e1, e2⟩ := orS_nat n m (by omega) (by omega)
  refine ⟨?_, by rw [e1]; omega, by rw [e1]; omega⟩
  rw [e1, or_bit n m (by omega) (by omega)]
  unfold quietusref38_join.f
  refine Ev.bind (in_r (n : Int) (m : Int) h0 (by omega) g0 (by omega)) ?_
  rw [Int.toNat_natCast, Int.toNat_natCast]
  by_cases ht : Nat.testBit n m = true
  · simp only [if_pos ht]
    exact Ev.now _
  · simp only [if_neg ht]
    exact join_loop n m (by omega) (by omega) m 0 (by omega)

/-! ### what is asked; spies -/
theorem asked_r (l : List S25) (o n lo hi : Int) (hl : l.length ≤ 1000) (hof : ∀ x ∈ l, x.f3.length ≤ 1000) : Ev (fun k => quietusref38_asked.f k l o n lo hi) (askedS l o n lo hi) := by
  unfold quietusref38_asked.f askedS
  refine Ev.bind (check_r l hl hof) ?_
  by_cases h : checkS l = 0
  · simp only [if_pos h, ne_eq, h, not_true_eq_false, if_false]
    have e : (if o < 0 then some (3 : Int) else if o > 1048576 then some 3 else if n < lo then some 3 else if n > hi then some 3 else some 0) = some (if (wi o 0 1048576 && wi n lo hi) = true then 0 else 3) := by
      unfold wi
      simp only [Bool.and_eq_true, decide_eq_true_eq]
      split
      · rw [if_neg (by omega)]
      split
      · rw [if_neg (by omega)]
      split
      · rw [if_neg (by omega)]
      split
      · rw [if_neg (by omega)]
      · rw [if_pos (by omega)]
    rw [e]; exact Ev.now _
  · simp only [if_neg h, ne_eq, h, not_false_eq_true, if_true]
    exact Ev.now _
theorem spied_loop (bad : Int) (caps : List S71) (hc : caps.length ≤ 1000000) : ∀ (d j : Nat), j + d = caps.length → Ev (fun k => quietusref38_spied.l0 k (j : Int) bad caps) (if (caps.drop j).any badcap = true then 3 else 0)
  | 0, j, hj => by
    refine ev_step1 fun k => ?_
    simp only [quietusref38_spied.l0]
    rw [if_neg (by omega), List.drop_eq_nil_of_le (by omega)]
    rfl
  | d + 1, j, hj => by
    have hlt : j < caps.length := by omega
    rw [List.drop_eq_getElem_cons hlt, List.any_cons]
    have hb : badcap caps[j] = true ↔ (caps[j].f0 < 0 ∨ caps[j].f0 > 11 ∨ caps[j].f1 < 0 ∨ caps[j].f1 > 1000000) := by
      unfold badcap wi
      simp only [Bool.or_eq_true, Bool.not_eq_true', decide_eq_false_iff_not]
      omega
    by_cases h : badcap caps[j] = true
    · rw [h, Bool.true_or, if_pos rfl]
      have h2 := hb.1 h
      refine ev_step1 fun k => ?_
      simp only [quietusref38_spied.l0]
      rw [if_pos (by omega), if_pos (by omega), rd71_get caps j hlt]
      by_cases a1 : caps[j].f0 < 0
      · rw [if_pos a1]
      rw [if_neg a1]
      by_cases a2 : caps[j].f0 > 11
      · rw [if_pos a2]
      rw [if_neg a2]
      by_cases a3 : caps[j].f1 < 0
      · rw [if_pos a3]
      rw [if_neg a3, if_pos (by omega)]
    · have h2 := fun x => h (hb.2 x)
      rw [show badcap caps[j] = false by simpa using h, Bool.false_or]
      refine Ev.step (fun k => ?_) (spied_loop bad caps hc d (j + 1) (by omega))
      simp only [quietusref38_spied.l0]
      rw [if_pos (by omega), if_pos (by omega), rd71_get caps j hlt, if_neg (fun x => h2 (.inl x)), if_neg (fun x => h2 (.inr (.inl x))), if_neg (fun x => h2 (.inr (.inr (.inl x)))), if_neg (fun x => h2 (.inr (.inr (.inr x)))), wrap_succ j (by omega)]
theorem spied_r (bad : Int) (caps : List S71) : Ev (fun k => quietusref38_spied.f k bad caps) (spiedS bad caps) := by
  have hj : ∀ b : Bool, b = !(wi bad 0 4095) → Ev (fun k => quietusref38_spied.j0 k b bad caps) (spiedS bad caps) := by
    intro b hb
    unfold spiedS
    cases hw : wi bad 0 4095 with
    | false =>
      rw [hw] at hb
      subst hb
      refine ev_step1 fun k => ?_
      simp [quietusref38_spied.j0]
    | true =>
      rw [hw] at hb
      subst hb
      by_cases hl : caps.length > 500
      · refine ev_step1 fun k => ?_
        simp only [quietusref38_spied.j0]
        rw [if_neg (by simp), if_pos (by omega), if_neg (by simp), if_pos hl]
      · refine Ev.step (f := fun k => quietusref38_spied.l0 k ((0 : Nat) : Int) bad caps) (fun k => ?_) ?_
        · simp only [quietusref38_spied.j0]
          rw [if_neg (by simp), if_neg (by omega)]
          rfl
        · rw [if_neg (by simp), if_neg hl]
          exact spied_loop bad caps (by omega) caps.length 0 (by omega)
  unfold quietusref38_spied.f
  by_cases h : bad < 0
  · simp only [if_pos h]
    exact hj true (by unfold wi; symm; simp; omega)
  · simp only [if_neg h]
    exact hj _ (by unfold wi; by_cases g : bad > 4095 <;> simp [g] <;> omega)
theorem seesR_eq (bad : Int) (caps : List S71) (a : S25) (b0 : 0 ≤ bad) (b1 : bad ≤ 4095) : seesR bad caps a = seesS bad caps a := by
  unfold seesR seesS
  rw [bit_test bad a.f4 b0 b1]
/-! ### the functions -/
theorem at_r (l : List S25) (o tick : Int) (hl : l.length ≤ 1000) (hof : ∀ x ∈ l, x.f3.length ≤ 1000) : Ev (fun k => quietusref38_At.f k l o tick) (AtS l o tick) := by
  unfold quietusref38_At.f AtS
  refine Ev.bind (asked_r l o tick 0 1000000 hl hof) ?_
  by_cases h : askedS l o tick 0 1000000 = 0
  · simp only [if_pos h, ne_eq, h, not_true_eq_false, if_false]
    have := fold_loop (fun k s j => quietusref38_At.l0 k l o tick s j) l (fun acc a => if (thereS a tick && decide (a.f2 = o)) = true then acc ++ [a.f0] else acc) (fun s => (s, (0 : Int))) (fun j s => s.length ≤ j)
      (fun j h s hs => by show (if _ then _ else _ : List Int).length ≤ _; split <;> (try simp only [List.length_append, List.length_cons, List.length_nil]) <;> omega)
      (fun j h s hs r hr => by
        refine Ev.step (fun k => ?_) hr
        simp only [quietusref38_At.l0]
        rw [if_pos (by omega), if_pos (by omega), rd25_get l j h, there_r, Option.bind_some, wrap_succ j (by omega)]
        by_cases h1 : thereS l[j] tick = true
        · by_cases h2 : l[j].f2 = o
          · rw [if_pos h1, if_pos h2, if_pos (by omega), if_pos (by simp [h1, h2])]
          · rw [if_pos h1, if_neg h2, if_neg (by simp [h2])]
        · rw [if_neg h1, if_neg (by simp [h1])])
      (fun s hs => ev_step1 fun k => by simp only [quietusref38_At.l0]; rw [if_neg (by omega)])
      l.length 0 [] (by omega) (by simp)
    rw [List.drop_zero, foldl_collect] at this
    unfold ofS
    rw [List.filter_filter]
    exact this
  · simp only [if_neg h, ne_eq, h, not_false_eq_true, if_true]
    exact Ev.now _
theorem asked_check {l : List S25} {o n lo hi : Int} (h : askedS l o n lo hi = 0) : checkS l = 0 := by
  unfold askedS at h
  split at h
  · rename_i h1; exact absurd h h1
  · rename_i h1; simpa using h1
theorem trail_r (l : List S25) (o : Int) (hl : l.length ≤ 1000) (hof : ∀ x ∈ l, x.f3.length ≤ 1000) : Ev (fun k => quietusref38_Trail.f k l o) (TrailS l o) := by
  unfold quietusref38_Trail.f TrailS
  refine Ev.bind (asked_r l o 0 0 0 hl hof) ?_
  by_cases h : askedS l o 0 0 0 = 0
  · have hk := asked_check h
    simp only [if_pos h, ne_eq, h, not_true_eq_false, if_false]
    have := fold_loop (fun k s j => quietusref38_Trail.l0 k l o s j) l (fun s a => if decide (a.f2 = o) = true then (if decide (a.f6 < a.f7) = true then orS s a.f4 else s) else s) (fun s => (s, (0 : Int))) (fun j s => 0 ≤ s ∧ s ≤ 4095)
      (fun j h s hs => by
        have hb := where_bd hk (List.getElem_mem h)
        have := (join_r s l[j].f4 hs.1 hs.2 hb.1 hb.2).2
        try dsimp only
        split
        · split
          · exact this
          · exact hs
        · exact hs)
      (fun j h s hs r hr => by
        have hb := where_bd hk (List.getElem_mem h)
        have hjn := (join_r s l[j].f4 hs.1 hs.2 hb.1 hb.2).1
        try dsimp only at hr
        by_cases h1 : l[j].f2 = o
        · rw [if_pos (by simpa using h1)] at hr
          by_cases h2 : l[j].f6 < l[j].f7
          · rw [if_pos (by simpa using h2)] at hr
            refine Ev.step (f := fun k => (quietusref38_join.f k s l[j].f4).bind fun t => quietusref38_Trail.l0 k l o t ((j + 1 : Nat) : Int)) (fun k => ?_) (Ev.bind hjn hr)
            simp only [quietusref38_Trail.l0]
            rw [if_pos (by omega), if_pos (by omega), rd25_get l j h, wrap_succ j (by omega), if_pos h1, if_pos h2]
          · rw [if_neg (by simpa using h2)] at hr
            refine Ev.step (fun k => ?_) hr
            simp only [quietusref38_Trail.l0]
            rw [if_pos (by omega), if_pos (by omega), rd25_get l j h, wrap_succ j (by omega), if_pos h1, if_neg h2]
        · rw [if_neg (by simpa using h1)] at hr
          refine Ev.step (fun k => ?_) hr
          simp only [quietusref38_Trail.l0]
          rw [if_pos (by omega), if_pos (by omega), rd25_get l j h, wrap_succ j (by omega), if_neg h1])
      (fun s hs => ev_step1 fun k => by simp only [quietusref38_Trail.l0]; rw [if_neg (by omega)])
      l.length 0 0 (by omega) (by omega)
    rw [List.drop_zero] at this
    unfold trailF ofS
    rw [List.foldl_filter]
    exact this
  · simp only [if_neg h, ne_eq, h, not_false_eq_true, if_true]
    exact Ev.now _
theorem find_at {l : List S25} (hc : checkS l = 0) (j : Nat) (h : j < l.length) : findS l l[j].f0 = j := by
  have key : ∀ (r : List S25) (i : Nat) (b : Int), (∀ q (hq : q < i) (hr : q < r.length), r[q].f0 ≠ l[j].f0) → (hi : i < r.length) → r[i].f0 = l[j].f0 → idxFrom (fun a => a.f0 == l[j].f0) r b = b + i := by
    intro r
    induction r with
    | nil => intro i b _ hi _; simp at hi
    | cons x r ih =>
      intro i b hq hi he
      cases i with
      | zero => simp only [List.getElem_cons_zero] at he; simp [idxFrom, he]
      | succ i =>
        have h0 := hq 0 (by omega) (by simp)
        simp only [List.getElem_cons_zero] at h0
        rw [idxFrom, if_neg (by simpa using h0), ih i (b + 1) (fun q hq2 hr => by have := hq (q + 1) (by omega) (by simp; omega); simpa using this) (by simpa using hi) (by simpa using he)]
        omega
  unfold findS
  rw [key l j 0 (fun q hq hr e => by have := ids_inj hc q j hr h e; omega) h rfl]
  omega
theorem where_r (l : List S25) (o tick : Int) (hl : l.length ≤ 1000) (hof : ∀ x ∈ l, x.f3.length ≤ 1000) : Ev (fun k => quietusref38_Where.f k l o tick) (WhereS l o tick) := by
  unfold quietusref38_Where.f WhereS
  refine Ev.bind (at_r l o tick hl hof) ?_
  unfold AtS
  by_cases h : askedS l o tick 0 1000000 = 0
  · have hk := asked_check h
    simp only [ne_eq, h, not_true_eq_false, if_false, if_true]
    have hfind : ∀ a ∈ l, ∃ j : Nat, ∃ hj : j < l.length, l[j] = a ∧ findS l a.f0 = j := by
      intro a ha
      obtain ⟨j, hj, rfl⟩ := List.mem_iff_getElem.1 ha
      exact ⟨j, hj, rfl, find_at hk j hj⟩
    generalize hxs : (ofS o l).filter (fun a => thereS a tick) = xs
    have hmem : ∀ a ∈ xs, a ∈ l := by
      intro a ha
      rw [← hxs] at ha
      have := (List.mem_filter.1 ha).1
      unfold ofS at this
      exact (List.mem_filter.1 this).1
    have hxl : xs.length ≤ 1000 := by
      rw [← hxs]
      refine Nat.le_trans (List.length_filter_le _ _) ?_
      unfold ofS
      exact Nat.le_trans (List.length_filter_le _ _) hl
    have hw : whereF tick (ofS o l) = xs.foldl (fun s a => orS s a.f4) 0 := by
      unfold whereF
      rw [← hxs, List.foldl_filter]
    rw [hw]
    have := fold_loop (fun k s j => quietusref38_Where.l0 k l s j (xs.map (·.f0)) 0) xs (fun s a => orS s a.f4) (fun s => (s, (0 : Int))) (fun j s => 0 ≤ s ∧ s ≤ 4095)
      (fun j h s hs => by
        have hb := where_bd hk (hmem _ (List.getElem_mem h))
        exact (join_r s xs[j].f4 hs.1 hs.2 hb.1 hb.2).2)
      (fun j h s hs r hr => by
        have hb := where_bd hk (hmem _ (List.getElem_mem h))
        have hjn := (join_r s xs[j].f4 hs.1 hs.2 hb.1 hb.2).1
        obtain ⟨q, hq, he, hf⟩ := hfind _ (hmem _ (List.getElem_mem h))
        have hfr := find_r l l.length xs[j].f0 (Nat.le_refl _) (by omega)
        rw [List.take_length, hf] at hfr
        refine Ev.step (fun k => by simp only [quietusref38_Where.l0]; rw [List.length_map, if_pos (by omega), if_pos (by omega), rd_get _ j (by rw [List.length_map]; exact h), List.getElem_map, wrap_succ j (by omega)]) (Ev.bind hfr ?_)
        simp only [if_pos (show (0 : Int) ≤ (q : Int) by omega), if_pos (show (q : Int) < (l.length : Int) by omega), rd25_get l q hq, he]
        exact Ev.bind hjn hr)
      (fun s hs => ev_step1 fun k => by simp only [quietusref38_Where.l0]; rw [List.length_map, if_neg (by omega)])
      xs.length 0 0 (by omega) (by omega)
    rw [List.drop_zero] at this
    exact this
  · simp only [ne_eq, h, not_false_eq_true, if_true, if_false]
    exact Ev.now _
end Go.Proofs.Ytlelhmephibfjaa.T

namespace Go.Proofs.Ytlelhmephibfjaa.T
open Go.RowKit Go.Proofs.YtlelhmephibfjaaW.PrintWords Go.Proofs.YtlelhmephibfjaaW.PrintLast Go.Proofs.YtlelhmephibfjaaW.PrintMore
attribute [local go_sem] max2_int min2_int max_two min_two max_three min_three max_four min_four   -- for this text's walks alone
set_option linter.unusedVariables false
set_option linter.unusedSimpArgs false

/-! ### quietusref38_holders: function 73 -/
def quietusref38_holders.l0 : Nat → List (S25) → Int → Int → List Int → Int → Option (Int)
  | 0, _, _, _, _, _ => none
  | k + 1, x0, x1, x2, x7, x8 => if x8 < (x0.length : Int) then (if 0 ≤ x8 then ((quietusref38_has.f k x7 ((rd_T25 x0 x8).f8)).bind fun t325 => (if t325 = true then (quietusref38_holders.l0 k x0 x1 x2 x7 (wrap64 (x8 + 1))) else (if ((rd_T25 x0 x8).f1) = 3 then (if ((rd_T25 x0 x8).f2) = x1 then (if ((rd_T25 x0 x8).f9) = x2 then (if x7.length < 17592186044416 then (quietusref38_holders.l0 k x0 x1 x2 (x7 ++ [(rd_T25 x0 x8).f8]) (wrap64 (x8 + 1))) else (none)) else (quietusref38_holders.l0 k x0 x1 x2 x7 (wrap64 (x8 + 1)))) else (quietusref38_holders.l0 k x0 x1 x2 x7 (wrap64 (x8 + 1)))) else (quietusref38_holders.l0 k x0 x1 x2 x7 (wrap64 (x8 + 1)))))) else (none)) else (some (x7.length : Int))
def quietusref38_holders.f (k : Nat) (l0 : List (S25)) (a1 : Int) (a2 : Int) : Option (Int) := quietusref38_holders.l0 k l0 a1 a2 ([] : List Int) 0
theorem quietusref38_holders.mono_l : ∀ k, (∀ y0 y1 y2 y3 y4, LeO (quietusref38_holders.l0 k y0 y1 y2 y3 y4) (quietusref38_holders.l0 (k + 1) y0 y1 y2 y3 y4))
  | 0 => fun _ _ _ _ _ r h => by simp [quietusref38_holders.l0] at h
  | k + 1 => by
    have ih0 := quietusref38_holders.mono_l k
    · intro y0 y1 y2 y3 y4
      unfold quietusref38_holders.l0
      repeat' first
      | (with_reducible exact ih0 _ _ _ _ _)
      | (with_reducible exact quietusref38_has.mono _ _ _)
      | (with_reducible exact LeO.refl _)
      | (with_reducible exact LeO.none _)
      | (with_reducible refine LeO.ite ?_ ?_)
      | (with_reducible refine LeO.bind ?_ (fun _ => ?_))
      | exact ih0 _ _ _ _ _
      | exact quietusref38_has.mono _ _ _
      | exact LeO.none _
      | refine LeO.ite ?_ ?_
      | refine LeO.bind ?_ (fun _ => ?_)
theorem quietusref38_holders.mono : ∀ a0 a1 a2 k, LeO (quietusref38_holders.f k a0 a1 a2) (quietusref38_holders.f (k + 1) a0 a1 a2) := by
  intro a0 a1 a2 k
  have ih0 := quietusref38_holders.mono_l k
  unfold quietusref38_holders.f
  repeat' first
      | (with_reducible exact ih0 _ _ _ _ _)
      | (with_reducible exact quietusref38_has.mono _ _ _)
      | (with_reducible exact LeO.refl _)
      | (with_reducible exact LeO.none _)
      | (with_reducible refine LeO.ite ?_ ?_)
      | (with_reducible refine LeO.bind ?_ (fun _ => ?_))
      | exact ih0 _ _ _ _ _
      | exact quietusref38_has.mono _ _ _
      | exact LeO.none _
      | refine LeO.ite ?_ ?_
      | refine LeO.bind ?_ (fun _ => ?_)
set_option maxHeartbeats 8000000 in
set_option maxRecDepth 100000 in
theorem quietusref38_holders.calls (k : Nat) (A0 : Option Addr) (c0 : Nat) (l0 : List (S25)) (a1 : Int) (a2 : Int) (r : Int) (w : World) (hr0 : Kd.C k25 w A0 l0.length l0) (hc0 : l0.length ≤ c0) (h : quietusref38_holders.f k l0 a1 a2 = some r) :
    Calls Try.prog 73 #[.slice A0 l0.length c0, .int .i64 a1, .int .i64 a2] w fun e w' => e = .returned (.int .i64 r) ∧ Below w.heap.size w w' := by
  have HR0 := Aside0.mk hr0
  have HC0 := Aside0.mk hc0
  clear hr0 hc0
  have HB := Aside0.mk (Below.refl w.heap.size w)
  have H : (quietusref38_holders.l0 k l0 a1 a2 ([] : List Int) 0) = some r := h
  clear h
  have H' := Aside0.mk H
  clear H
  go_enter Try.func73, Try.ntmps73
  go_wp2
  go_loopg [7, 8] k (fun kq v7 v8 w' => ∃ (x7_1 : List Int) (x8_1 : Int), v8 = .int .i64 x8_1 ∧ Aside0 (quietusref38_holders.l0 kq l0 a1 a2 x7_1 x8_1 = some r) ∧ Aside0 (kq ≤ k) ∧ Aside0 (Kd.R (Kd.int .i64) 3 w' w.heap.size (fun _ => True) v7 x7_1) ∧ Aside0 (Below w.heap.size w w'))
  case atStart => exact ⟨(([] : List Int)), (0), (by first | rfl | (simp; done) | (simp [*]; done)), H', ⟨Nat.le_refl _⟩, ⟨by first | exact Kd.R_nil _ _ _ _ _ | exact Kd.N_nil _ _ _ _ _ | exact Kd.V_nil _ _ _ _ _ | exact Kd.Q_nil _ _ _ _ _ | exact Kd.S_nil _ _ _ _ _⟩, ⟨by repeat (first | (with_reducible first | exact HB.out | apply below_alloc | apply pw_below_drewN | apply below_drew1) | exact HB.out)⟩⟩
  case round =>
    clear H'
    try clear p2
    obtain ⟨x7_1, x8_1, rfl, HA, HK1, HO_7, HB⟩ := hrel
    cases gk with
    | zero => exact absurd HA.out (by simp [quietusref38_holders.l0])
    | succ k1 =>
      have H := HA.out
      clear HA
      simp only [quietusref38_holders.l0] at H
      by_cases c4 : x8_1 < (l0.length : Int)
      · rw [if_pos c4] at H
        have c4b0 : decide (x8_1 < (l0.length : Int)) = true := decide_eq_true c4
        clear c4
        by_cases c5 : 0 ≤ x8_1
        · rw [if_pos c5] at H
          have c5b0 : decide (0 ≤ x8_1) = true := decide_eq_true c5
          clear c5
          replace H := Option.bind_eq_some_iff.mp H
          obtain ⟨t325, A60, H⟩ := H
          replace H : (if t325 = true then (quietusref38_holders.l0 k1 l0 a1 a2 x7_1 (wrap64 (x8_1 + 1))) else (if ((rd_T25 l0 x8_1).f1) = 3 then (if ((rd_T25 l0 x8_1).f2) = a1 then (if ((rd_T25 l0 x8_1).f9) = a2 then (if x7_1.length < 17592186044416 then (quietusref38_holders.l0 k1 l0 a1 a2 (x7_1 ++ [(rd_T25 l0 x8_1).f8]) (wrap64 (x8_1 + 1))) else (none)) else (quietusref38_holders.l0 k1 l0 a1 a2 x7_1 (wrap64 (x8_1 + 1)))) else (quietusref38_holders.l0 k1 l0 a1 a2 x7_1 (wrap64 (x8_1 + 1)))) else (quietusref38_holders.l0 k1 l0 a1 a2 x7_1 (wrap64 (x8_1 + 1))))) = some r := H
          have A6 := Aside0.mk A60
          clear A60
          by_cases c7 : t325 = true
          · subst c7
            have H1 : (quietusref38_holders.l0 k1 l0 a1 a2 x7_1 (wrap64 (x8_1 + 1))) = some r := by rw [if_pos rfl] at H; exact H
            clear H
            have H := H1
            clear H1
            have H' := Aside0.mk H
            clear H
            have p324 : 0 ≤ (x8_1 : Int) := of_decide_eq_true (by first | (with_reducible assumption) | assumption)
            have q324 : x8_1 < (l0.length : Int) := of_decide_eq_true (by first | (with_reducible assumption) | assumption)
            obtain ⟨ad324, A324_3, c324_3, e324, hx324_0, hx324_1, hx324_2, hx324_3, hx324_4, hx324_5, hx324_6, hx324_7, hx324_8, hx324_9, hl324_3, hi324_3⟩ := at_T25 HR0.out x8_1 p324 q324
            cases e324
            replace hx324_0 := (HB.out.cell (World.block_lt_of_cell? w _ hx324_0)).trans hx324_0
            replace hx324_1 := (HB.out.cell (World.block_lt_of_cell? w _ hx324_1)).trans hx324_1
            replace hx324_2 := (HB.out.cell (World.block_lt_of_cell? w _ hx324_2)).trans hx324_2
            replace hx324_3 := (HB.out.cell (World.block_lt_of_cell? w _ hx324_3)).trans hx324_3
            replace hx324_4 := (HB.out.cell (World.block_lt_of_cell? w _ hx324_4)).trans hx324_4
            replace hx324_5 := (HB.out.cell (World.block_lt_of_cell? w _ hx324_5)).trans hx324_5
            replace hx324_6 := (HB.out.cell (World.block_lt_of_cell? w _ hx324_6)).trans hx324_6
            replace hx324_7 := (HB.out.cell (World.block_lt_of_cell? w _ hx324_7)).trans hx324_7
            replace hx324_8 := (HB.out.cell (World.block_lt_of_cell? w _ hx324_8)).trans hx324_8
            replace hx324_9 := (HB.out.cell (World.block_lt_of_cell? w _ hx324_9)).trans hx324_9
            have HR324_3 := Aside0.mk hi324_3
            have HC324_3 := Aside0.mk hl324_3
            clear hi324_3 hl324_3
            replace p324 := eq_true p324
            replace q324 := eq_true q324
            obtain ⟨Ao8, co8, eo8⟩ := Kd.R_slice HO_7.out
            subst eo8
            go_wp2_with (first | ((with_reducible refine gate_callee (f := 53) rfl ?_); refine goesL_ (some 22) rfl rfl Try.func53 (by kernel_rfl) rfl #[.slice Ao8 x7_1.length co8, .int .i64 ((rd_T25 l0 x8_1).f8)] rfl (by (try simp only [List.map_toArray, List.map_cons, List.map_nil]); first | done | rfl | (simp only [List.length_drop, List.length_take]; rfl)) ?_; (with_reducible refine (quietusref38_has.calls k1 _ _ x7_1 ((rd_T25 l0 x8_1).f8) true _ ?side1 ?side2 A6.out).mono ?_); (case side1 => repeat (first | exact (Kd.R_reads' HO_7.out).2.2 | (with_reducible refine Kd.C_alloc ?_ _) | (with_reducible refine Kd.C_drewN ?_ _) | (with_reducible refine Kd.C_drew ?_))); (case side2 => exact (Kd.R_reads' HO_7.out).2.1); rintro e w' ⟨rfl, ⟨nd, rfl⟩⟩; refine ⟨_, rfl, ?_⟩))
            go_roundg k1
            case measure => have := HK1.out; omega
            case rel => exact ⟨(x7_1), (wrap64 (x8_1 + 1)), (by first | rfl | (simp; done) | (simp [*]; done)), H', ⟨by have := HK1.out; omega⟩, ⟨by (with_reducible repeat (first | apply Kd.R_alloc | apply Kd.R_drewN | apply Kd.R_drew)); exact HO_7.out⟩, ⟨by repeat (first | (with_reducible first | exact HB.out | apply below_alloc | apply pw_below_drewN | apply below_drew1) | exact HB.out)⟩⟩
          · replace c7 := Bool.eq_false_iff.mpr c7
            subst c7
            have H1 : (if ((rd_T25 l0 x8_1).f1) = 3 then (if ((rd_T25 l0 x8_1).f2) = a1 then (if ((rd_T25 l0 x8_1).f9) = a2 then (if x7_1.length < 17592186044416 then (quietusref38_holders.l0 k1 l0 a1 a2 (x7_1 ++ [(rd_T25 l0 x8_1).f8]) (wrap64 (x8_1 + 1))) else (none)) else (quietusref38_holders.l0 k1 l0 a1 a2 x7_1 (wrap64 (x8_1 + 1)))) else (quietusref38_holders.l0 k1 l0 a1 a2 x7_1 (wrap64 (x8_1 + 1)))) else (quietusref38_holders.l0 k1 l0 a1 a2 x7_1 (wrap64 (x8_1 + 1)))) = some r := by rw [if_neg (show ¬ (false = true) by decide)] at H; exact H
            clear H
            have H := H1
            clear H1
            by_cases c9 : ((rd_T25 l0 x8_1).f1) = 3
            · rw [if_pos c9] at H
              have c9b0 : (((rd_T25 l0 x8_1).f1) == 3) = true := beq_iff_eq.mpr c9
              have c9b1 : (((rd_T25 l0 x8_1).f1) != 3) = false := bne_eq_false_iff_eq.mpr c9
              clear c9
              by_cases c10 : ((rd_T25 l0 x8_1).f2) = a1
              · rw [if_pos c10] at H
                have c10b0 : (((rd_T25 l0 x8_1).f2) == a1) = true := beq_iff_eq.mpr c10
                have c10b1 : (((rd_T25 l0 x8_1).f2) != a1) = false := bne_eq_false_iff_eq.mpr c10
                clear c10
                by_cases c11 : ((rd_T25 l0 x8_1).f9) = a2
                · rw [if_pos c11] at H
                  have c11b0 : (((rd_T25 l0 x8_1).f9) == a2) = true := beq_iff_eq.mpr c11
                  have c11b1 : (((rd_T25 l0 x8_1).f9) != a2) = false := bne_eq_false_iff_eq.mpr c11
                  clear c11
                  by_cases c12 : x7_1.length < 17592186044416
                  · rw [if_pos c12] at H
                    have LMc12 := Aside0.mk c12
                    clear c12
                    obtain ⟨y330, hy330⟩ : ∃ y_ : List Int, y_ = (x7_1 ++ [(rd_T25 l0 x8_1).f8]) := ⟨_, rfl⟩
                    replace H : (quietusref38_holders.l0 k1 l0 a1 a2 y330 (wrap64 (x8_1 + 1))) = some r := by first | (rw [hy330]; with_reducible exact H) | (have H2_ := (Option.bind_some _ _).symm.trans H; rw [hy330]; with_reducible exact H2_) | (have H2_ := (Option.bind_some _ _).symm.trans H; with_reducible exact H2_) | with_reducible exact H | (rw [hy330]; exact H) | exact H
                    have Ny330 := Aside0.mk hy330
                    clear hy330
                    have H' := Aside0.mk H
                    clear H
                    have p324 : 0 ≤ (x8_1 : Int) := of_decide_eq_true (by first | (with_reducible assumption) | assumption)
                    have q324 : x8_1 < (l0.length : Int) := of_decide_eq_true (by first | (with_reducible assumption) | assumption)
                    obtain ⟨ad324, A324_3, c324_3, e324, hx324_0, hx324_1, hx324_2, hx324_3, hx324_4, hx324_5, hx324_6, hx324_7, hx324_8, hx324_9, hl324_3, hi324_3⟩ := at_T25 HR0.out x8_1 p324 q324
                    cases e324
                    replace hx324_0 := (HB.out.cell (World.block_lt_of_cell? w _ hx324_0)).trans hx324_0
                    replace hx324_1 := (HB.out.cell (World.block_lt_of_cell? w _ hx324_1)).trans hx324_1
                    replace hx324_2 := (HB.out.cell (World.block_lt_of_cell? w _ hx324_2)).trans hx324_2
                    replace hx324_3 := (HB.out.cell (World.block_lt_of_cell? w _ hx324_3)).trans hx324_3
                    replace hx324_4 := (HB.out.cell (World.block_lt_of_cell? w _ hx324_4)).trans hx324_4
                    replace hx324_5 := (HB.out.cell (World.block_lt_of_cell? w _ hx324_5)).trans hx324_5
                    replace hx324_6 := (HB.out.cell (World.block_lt_of_cell? w _ hx324_6)).trans hx324_6
                    replace hx324_7 := (HB.out.cell (World.block_lt_of_cell? w _ hx324_7)).trans hx324_7
                    replace hx324_8 := (HB.out.cell (World.block_lt_of_cell? w _ hx324_8)).trans hx324_8
                    replace hx324_9 := (HB.out.cell (World.block_lt_of_cell? w _ hx324_9)).trans hx324_9
                    have HR324_3 := Aside0.mk hi324_3
                    have HC324_3 := Aside0.mk hl324_3
                    clear hi324_3 hl324_3
                    replace p324 := eq_true p324
                    replace q324 := eq_true q324
                    obtain ⟨Ao13, co13, eo13⟩ := Kd.R_slice HO_7.out
                    subst eo13
                    go_wp2_with (first | ((with_reducible refine gate_callee (f := 53) rfl ?_); refine goesL_ (some 22) rfl rfl Try.func53 (by kernel_rfl) rfl #[.slice Ao13 x7_1.length co13, .int .i64 ((rd_T25 l0 x8_1).f8)] rfl (by (try simp only [List.map_toArray, List.map_cons, List.map_nil]); first | done | rfl | (simp only [List.length_drop, List.length_take]; rfl)) ?_; (with_reducible refine (quietusref38_has.calls k1 _ _ x7_1 ((rd_T25 l0 x8_1).f8) false _ ?side1 ?side2 A6.out).mono ?_); (case side1 => repeat (first | exact (Kd.R_reads' HO_7.out).2.2 | (with_reducible refine Kd.C_alloc ?_ _) | (with_reducible refine Kd.C_drewN ?_ _) | (with_reducible refine Kd.C_drew ?_))); (case side2 => exact (Kd.R_reads' HO_7.out).2.1); rintro e w' ⟨rfl, ⟨nd, rfl⟩⟩; refine ⟨_, rfl, ?_⟩; have p326 : 0 ≤ (x8_1 : Int) := of_decide_eq_true (by first | (with_reducible assumption) | assumption); have q326 : x8_1 < (l0.length : Int) := of_decide_eq_true (by first | (with_reducible assumption) | assumption); obtain ⟨ad326, A326_3, c326_3, e326, hx326_0, hx326_1, hx326_2, hx326_3, hx326_4, hx326_5, hx326_6, hx326_7, hx326_8, hx326_9, hl326_3, hi326_3⟩ := at_T25 HR0.out x8_1 p326 q326; obtain rfl : ad324 = ad326 := (by injection e326); replace hx326_0 := (HB.out.cell (World.block_lt_of_cell? w _ hx326_0)).trans hx326_0; replace hx326_1 := (HB.out.cell (World.block_lt_of_cell? w _ hx326_1)).trans hx326_1; replace hx326_2 := (HB.out.cell (World.block_lt_of_cell? w _ hx326_2)).trans hx326_2; replace hx326_3 := (HB.out.cell (World.block_lt_of_cell? w _ hx326_3)).trans hx326_3; replace hx326_4 := (HB.out.cell (World.block_lt_of_cell? w _ hx326_4)).trans hx326_4; replace hx326_5 := (HB.out.cell (World.block_lt_of_cell? w _ hx326_5)).trans hx326_5; replace hx326_6 := (HB.out.cell (World.block_lt_of_cell? w _ hx326_6)).trans hx326_6; replace hx326_7 := (HB.out.cell (World.block_lt_of_cell? w _ hx326_7)).trans hx326_7; replace hx326_8 := (HB.out.cell (World.block_lt_of_cell? w _ hx326_8)).trans hx326_8; replace hx326_9 := (HB.out.cell (World.block_lt_of_cell? w _ hx326_9)).trans hx326_9; have HR326_3 := Aside0.mk hi326_3; have HC326_3 := Aside0.mk hl326_3; clear hi326_3 hl326_3; replace p326 := eq_true p326; replace q326 := eq_true q326; have ea_ := Option.some.inj (hx324_3.symm.trans hx326_3); injection ea_ with ea_ en_ ec_; subst ea_; subst ec_; clear en_; have p327 : 0 ≤ (x8_1 : Int) := of_decide_eq_true (by first | (with_reducible assumption) | assumption); have q327 : x8_1 < (l0.length : Int) := of_decide_eq_true (by first | (with_reducible assumption) | assumption); obtain ⟨ad327, A327_3, c327_3, e327, hx327_0, hx327_1, hx327_2, hx327_3, hx327_4, hx327_5, hx327_6, hx327_7, hx327_8, hx327_9, hl327_3, hi327_3⟩ := at_T25 HR0.out x8_1 p327 q327; obtain rfl : ad324 = ad327 := (by injection e327); replace hx327_0 := (HB.out.cell (World.block_lt_of_cell? w _ hx327_0)).trans hx327_0; replace hx327_1 := (HB.out.cell (World.block_lt_of_cell? w _ hx327_1)).trans hx327_1; replace hx327_2 := (HB.out.cell (World.block_lt_of_cell? w _ hx327_2)).trans hx327_2; replace hx327_3 := (HB.out.cell (World.block_lt_of_cell? w _ hx327_3)).trans hx327_3; replace hx327_4 := (HB.out.cell (World.block_lt_of_cell? w _ hx327_4)).trans hx327_4; replace hx327_5 := (HB.out.cell (World.block_lt_of_cell? w _ hx327_5)).trans hx327_5; replace hx327_6 := (HB.out.cell (World.block_lt_of_cell? w _ hx327_6)).trans hx327_6; replace hx327_7 := (HB.out.cell (World.block_lt_of_cell? w _ hx327_7)).trans hx327_7; replace hx327_8 := (HB.out.cell (World.block_lt_of_cell? w _ hx327_8)).trans hx327_8; replace hx327_9 := (HB.out.cell (World.block_lt_of_cell? w _ hx327_9)).trans hx327_9; have HR327_3 := Aside0.mk hi327_3; have HC327_3 := Aside0.mk hl327_3; clear hi327_3 hl327_3; replace p327 := eq_true p327; replace q327 := eq_true q327; have ea_ := Option.some.inj (hx324_3.symm.trans hx327_3); injection ea_ with ea_ en_ ec_; subst ea_; subst ec_; clear en_; have p328 : 0 ≤ (x8_1 : Int) := of_decide_eq_true (by first | (with_reducible assumption) | assumption); have q328 : x8_1 < (l0.length : Int) := of_decide_eq_true (by first | (with_reducible assumption) | assumption); obtain ⟨ad328, A328_3, c328_3, e328, hx328_0, hx328_1, hx328_2, hx328_3, hx328_4, hx328_5, hx328_6, hx328_7, hx328_8, hx328_9, hl328_3, hi328_3⟩ := at_T25 HR0.out x8_1 p328 q328; obtain rfl : ad324 = ad328 := (by injection e328); replace hx328_0 := (HB.out.cell (World.block_lt_of_cell? w _ hx328_0)).trans hx328_0; replace hx328_1 := (HB.out.cell (World.block_lt_of_cell? w _ hx328_1)).trans hx328_1; replace hx328_2 := (HB.out.cell (World.block_lt_of_cell? w _ hx328_2)).trans hx328_2; replace hx328_3 := (HB.out.cell (World.block_lt_of_cell? w _ hx328_3)).trans hx328_3; replace hx328_4 := (HB.out.cell (World.block_lt_of_cell? w _ hx328_4)).trans hx328_4; replace hx328_5 := (HB.out.cell (World.block_lt_of_cell? w _ hx328_5)).trans hx328_5; replace hx328_6 := (HB.out.cell (World.block_lt_of_cell? w _ hx328_6)).trans hx328_6; replace hx328_7 := (HB.out.cell (World.block_lt_of_cell? w _ hx328_7)).trans hx328_7; replace hx328_8 := (HB.out.cell (World.block_lt_of_cell? w _ hx328_8)).trans hx328_8; replace hx328_9 := (HB.out.cell (World.block_lt_of_cell? w _ hx328_9)).trans hx328_9; have HR328_3 := Aside0.mk hi328_3; have HC328_3 := Aside0.mk hl328_3; clear hi328_3 hl328_3; replace p328 := eq_true p328; replace q328 := eq_true q328; have ea_ := Option.some.inj (hx324_3.symm.trans hx328_3); injection ea_ with ea_ en_ ec_; subst ea_; subst ec_; clear en_; have p329 : 0 ≤ (x8_1 : Int) := of_decide_eq_true (by first | (with_reducible assumption) | assumption); have q329 : x8_1 < (l0.length : Int) := of_decide_eq_true (by first | (with_reducible assumption) | assumption); obtain ⟨ad329, A329_3, c329_3, e329, hx329_0, hx329_1, hx329_2, hx329_3, hx329_4, hx329_5, hx329_6, hx329_7, hx329_8, hx329_9, hl329_3, hi329_3⟩ := at_T25 HR0.out x8_1 p329 q329; obtain rfl : ad324 = ad329 := (by injection e329); replace hx329_0 := (HB.out.cell (World.block_lt_of_cell? w _ hx329_0)).trans hx329_0; replace hx329_1 := (HB.out.cell (World.block_lt_of_cell? w _ hx329_1)).trans hx329_1; replace hx329_2 := (HB.out.cell (World.block_lt_of_cell? w _ hx329_2)).trans hx329_2; replace hx329_3 := (HB.out.cell (World.block_lt_of_cell? w _ hx329_3)).trans hx329_3; replace hx329_4 := (HB.out.cell (World.block_lt_of_cell? w _ hx329_4)).trans hx329_4; replace hx329_5 := (HB.out.cell (World.block_lt_of_cell? w _ hx329_5)).trans hx329_5; replace hx329_6 := (HB.out.cell (World.block_lt_of_cell? w _ hx329_6)).trans hx329_6; replace hx329_7 := (HB.out.cell (World.block_lt_of_cell? w _ hx329_7)).trans hx329_7; replace hx329_8 := (HB.out.cell (World.block_lt_of_cell? w _ hx329_8)).trans hx329_8; replace hx329_9 := (HB.out.cell (World.block_lt_of_cell? w _ hx329_9)).trans hx329_9; have HR329_3 := Aside0.mk hi329_3; have HC329_3 := Aside0.mk hl329_3; clear hi329_3 hl329_3; replace p329 := eq_true p329; replace q329 := eq_true q329; have ea_ := Option.some.inj (hx324_3.symm.trans hx329_3); injection ea_ with ea_ en_ ec_; subst ea_; subst ec_; clear en_) | ((with_reducible refine gate_builtin (b := .append) (xs := #[.tmp 51, .tmp 57]) rfl ?_); at_builtin; refine Kd.R_append (Kd.int .i64) (w0 := w) w.heap.size rfl (.tmp 51) (.tmp 57) 23 3 (.int .i64 0) 8 rfl Try.underlying23 info3 rfl (by decide) (by omega) (.slice Ao13 x7_1.length co13) x7_1 ((rd_T25 l0 x8_1).f8) [.int .i64 ((rd_T25 l0 x8_1).f8)] (fun _ => True) (fun _ => False) rfl rfl ?aP (fun _ hk => hk.elim) ?aF ?aO ?aB ?aS ?aL ?_; (case aP => exact rfl); (case aB => exact (by repeat (first | (with_reducible first | exact HB.out | apply below_alloc | apply pw_below_drewN | apply below_drew1) | exact HB.out))); (case aF => exact (fun _ _ => trivial)); (case aO => exact (by (with_reducible repeat (first | apply Kd.R_alloc | apply Kd.R_drewN | apply Kd.R_drew)); exact HO_7.out)); (case aS => exact (below_size (by repeat (first | (with_reducible first | exact HB.out | apply below_alloc | apply pw_below_drewN | apply below_drew1) | exact HB.out)))); (case aL => have := LMc12.out; omega); intro v331 w14 ho hb hg hat; rw [← Ny330.out] at ho; have n0_ := Aside0.mk (hb); have n1_ := Aside0.mk (ho); clear HB; clear HO_7; have HB := n0_; have HO332 := n1_; clear n0_ n1_; clear ho hb hg hat))
                    go_roundg k1
                    case measure => have := HK1.out; omega
                    case rel => exact ⟨(y330), (wrap64 (x8_1 + 1)), (by first | rfl | (simp; done) | (simp [*]; done)), H', ⟨by have := HK1.out; omega⟩, ⟨by (with_reducible repeat (first | apply Kd.R_alloc | apply Kd.R_drewN | apply Kd.R_drew)); exact HO332.out⟩, ⟨by repeat (first | (with_reducible first | exact HB.out | apply below_alloc | apply pw_below_drewN | apply below_drew1) | exact HB.out)⟩⟩
                  · rw [if_neg c12] at H
                    exact absurd H (by simp)
                · rw [if_neg c11] at H
                  have c11b0 : (((rd_T25 l0 x8_1).f9) == a2) = false := beq_eq_false_iff_ne.mpr c11
                  have c11b1 : (((rd_T25 l0 x8_1).f9) != a2) = true := bne_iff_ne.mpr c11
                  have H' := Aside0.mk H
                  clear H
                  have p324 : 0 ≤ (x8_1 : Int) := of_decide_eq_true (by first | (with_reducible assumption) | assumption)
                  have q324 : x8_1 < (l0.length : Int) := of_decide_eq_true (by first | (with_reducible assumption) | assumption)
                  obtain ⟨ad324, A324_3, c324_3, e324, hx324_0, hx324_1, hx324_2, hx324_3, hx324_4, hx324_5, hx324_6, hx324_7, hx324_8, hx324_9, hl324_3, hi324_3⟩ := at_T25 HR0.out x8_1 p324 q324
                  cases e324
                  replace hx324_0 := (HB.out.cell (World.block_lt_of_cell? w _ hx324_0)).trans hx324_0
                  replace hx324_1 := (HB.out.cell (World.block_lt_of_cell? w _ hx324_1)).trans hx324_1
                  replace hx324_2 := (HB.out.cell (World.block_lt_of_cell? w _ hx324_2)).trans hx324_2
                  replace hx324_3 := (HB.out.cell (World.block_lt_of_cell? w _ hx324_3)).trans hx324_3
                  replace hx324_4 := (HB.out.cell (World.block_lt_of_cell? w _ hx324_4)).trans hx324_4
                  replace hx324_5 := (HB.out.cell (World.block_lt_of_cell? w _ hx324_5)).trans hx324_5
                  replace hx324_6 := (HB.out.cell (World.block_lt_of_cell? w _ hx324_6)).trans hx324_6
                  replace hx324_7 := (HB.out.cell (World.block_lt_of_cell? w _ hx324_7)).trans hx324_7
                  replace hx324_8 := (HB.out.cell (World.block_lt_of_cell? w _ hx324_8)).trans hx324_8
                  replace hx324_9 := (HB.out.cell (World.block_lt_of_cell? w _ hx324_9)).trans hx324_9
                  have HR324_3 := Aside0.mk hi324_3
                  have HC324_3 := Aside0.mk hl324_3
                  clear hi324_3 hl324_3
                  replace p324 := eq_true p324
                  replace q324 := eq_true q324
                  obtain ⟨Ao15, co15, eo15⟩ := Kd.R_slice HO_7.out
                  subst eo15
                  go_wp2_with (first | ((with_reducible refine gate_callee (f := 53) rfl ?_); refine goesL_ (some 22) rfl rfl Try.func53 (by kernel_rfl) rfl #[.slice Ao15 x7_1.length co15, .int .i64 ((rd_T25 l0 x8_1).f8)] rfl (by (try simp only [List.map_toArray, List.map_cons, List.map_nil]); first | done | rfl | (simp only [List.length_drop, List.length_take]; rfl)) ?_; (with_reducible refine (quietusref38_has.calls k1 _ _ x7_1 ((rd_T25 l0 x8_1).f8) false _ ?side1 ?side2 A6.out).mono ?_); (case side1 => repeat (first | exact (Kd.R_reads' HO_7.out).2.2 | (with_reducible refine Kd.C_alloc ?_ _) | (with_reducible refine Kd.C_drewN ?_ _) | (with_reducible refine Kd.C_drew ?_))); (case side2 => exact (Kd.R_reads' HO_7.out).2.1); rintro e w' ⟨rfl, ⟨nd, rfl⟩⟩; refine ⟨_, rfl, ?_⟩; have p326 : 0 ≤ (x8_1 : Int) := of_decide_eq_true (by first | (with_reducible assumption) | assumption); have q326 : x8_1 < (l0.length : Int) := of_decide_eq_true (by first | (with_reducible assumption) | assumption); obtain ⟨ad326, A326_3, c326_3, e326, hx326_0, hx326_1, hx326_2, hx326_3, hx326_4, hx326_5, hx326_6, hx326_7, hx326_8, hx326_9, hl326_3, hi326_3⟩ := at_T25 HR0.out x8_1 p326 q326; obtain rfl : ad324 = ad326 := (by injection e326); replace hx326_0 := (HB.out.cell (World.block_lt_of_cell? w _ hx326_0)).trans hx326_0; replace hx326_1 := (HB.out.cell (World.block_lt_of_cell? w _ hx326_1)).trans hx326_1; replace hx326_2 := (HB.out.cell (World.block_lt_of_cell? w _ hx326_2)).trans hx326_2; replace hx326_3 := (HB.out.cell (World.block_lt_of_cell? w _ hx326_3)).trans hx326_3; replace hx326_4 := (HB.out.cell (World.block_lt_of_cell? w _ hx326_4)).trans hx326_4; replace hx326_5 := (HB.out.cell (World.block_lt_of_cell? w _ hx326_5)).trans hx326_5; replace hx326_6 := (HB.out.cell (World.block_lt_of_cell? w _ hx326_6)).trans hx326_6; replace hx326_7 := (HB.out.cell (World.block_lt_of_cell? w _ hx326_7)).trans hx326_7; replace hx326_8 := (HB.out.cell (World.block_lt_of_cell? w _ hx326_8)).trans hx326_8; replace hx326_9 := (HB.out.cell (World.block_lt_of_cell? w _ hx326_9)).trans hx326_9; have HR326_3 := Aside0.mk hi326_3; have HC326_3 := Aside0.mk hl326_3; clear hi326_3 hl326_3; replace p326 := eq_true p326; replace q326 := eq_true q326; have ea_ := Option.some.inj (hx324_3.symm.trans hx326_3); injection ea_ with ea_ en_ ec_; subst ea_; subst ec_; clear en_; have p327 : 0 ≤ (x8_1 : Int) := of_decide_eq_true (by first | (with_reducible assumption) | assumption); have q327 : x8_1 < (l0.length : Int) := of_decide_eq_true (by first | (with_reducible assumption) | assumption); obtain ⟨ad327, A327_3, c327_3, e327, hx327_0, hx327_1, hx327_2, hx327_3, hx327_4, hx327_5, hx327_6, hx327_7, hx327_8, hx327_9, hl327_3, hi327_3⟩ := at_T25 HR0.out x8_1 p327 q327; obtain rfl : ad324 = ad327 := (by injection e327); replace hx327_0 := (HB.out.cell (World.block_lt_of_cell? w _ hx327_0)).trans hx327_0; replace hx327_1 := (HB.out.cell (World.block_lt_of_cell? w _ hx327_1)).trans hx327_1; replace hx327_2 := (HB.out.cell (World.block_lt_of_cell? w _ hx327_2)).trans hx327_2; replace hx327_3 := (HB.out.cell (World.block_lt_of_cell? w _ hx327_3)).trans hx327_3; replace hx327_4 := (HB.out.cell (World.block_lt_of_cell? w _ hx327_4)).trans hx327_4; replace hx327_5 := (HB.out.cell (World.block_lt_of_cell? w _ hx327_5)).trans hx327_5; replace hx327_6 := (HB.out.cell (World.block_lt_of_cell? w _ hx327_6)).trans hx327_6; replace hx327_7 := (HB.out.cell (World.block_lt_of_cell? w _ hx327_7)).trans hx327_7; replace hx327_8 := (HB.out.cell (World.block_lt_of_cell? w _ hx327_8)).trans hx327_8; replace hx327_9 := (HB.out.cell (World.block_lt_of_cell? w _ hx327_9)).trans hx327_9; have HR327_3 := Aside0.mk hi327_3; have HC327_3 := Aside0.mk hl327_3; clear hi327_3 hl327_3; replace p327 := eq_true p327; replace q327 := eq_true q327; have ea_ := Option.some.inj (hx324_3.symm.trans hx327_3); injection ea_ with ea_ en_ ec_; subst ea_; subst ec_; clear en_; have p328 : 0 ≤ (x8_1 : Int) := of_decide_eq_true (by first | (with_reducible assumption) | assumption); have q328 : x8_1 < (l0.length : Int) := of_decide_eq_true (by first | (with_reducible assumption) | assumption); obtain ⟨ad328, A328_3, c328_3, e328, hx328_0, hx328_1, hx328_2, hx328_3, hx328_4, hx328_5, hx328_6, hx328_7, hx328_8, hx328_9, hl328_3, hi328_3⟩ := at_T25 HR0.out x8_1 p328 q328; obtain rfl : ad324 = ad328 := (by injection e328); replace hx328_0 := (HB.out.cell (World.block_lt_of_cell? w _ hx328_0)).trans hx328_0; replace hx328_1 := (HB.out.cell (World.block_lt_of_cell? w _ hx328_1)).trans hx328_1; replace hx328_2 := (HB.out.cell (World.block_lt_of_cell? w _ hx328_2)).trans hx328_2; replace hx328_3 := (HB.out.cell (World.block_lt_of_cell? w _ hx328_3)).trans hx328_3; replace hx328_4 := (HB.out.cell (World.block_lt_of_cell? w _ hx328_4)).trans hx328_4; replace hx328_5 := (HB.out.cell (World.block_lt_of_cell? w _ hx328_5)).trans hx328_5; replace hx328_6 := (HB.out.cell (World.block_lt_of_cell? w _ hx328_6)).trans hx328_6; replace hx328_7 := (HB.out.cell (World.block_lt_of_cell? w _ hx328_7)).trans hx328_7; replace hx328_8 := (HB.out.cell (World.block_lt_of_cell? w _ hx328_8)).trans hx328_8; replace hx328_9 := (HB.out.cell (World.block_lt_of_cell? w _ hx328_9)).trans hx328_9; have HR328_3 := Aside0.mk hi328_3; have HC328_3 := Aside0.mk hl328_3; clear hi328_3 hl328_3; replace p328 := eq_true p328; replace q328 := eq_true q328; have ea_ := Option.some.inj (hx324_3.symm.trans hx328_3); injection ea_ with ea_ en_ ec_; subst ea_; subst ec_; clear en_))
                  go_roundg k1
                  case measure => have := HK1.out; omega
                  case rel => exact ⟨(x7_1), (wrap64 (x8_1 + 1)), (by first | rfl | (simp; done) | (simp [*]; done)), H', ⟨by have := HK1.out; omega⟩, ⟨by (with_reducible repeat (first | apply Kd.R_alloc | apply Kd.R_drewN | apply Kd.R_drew)); exact HO_7.out⟩, ⟨by repeat (first | (with_reducible first | exact HB.out | apply below_alloc | apply pw_below_drewN | apply below_drew1) | exact HB.out)⟩⟩
              · rw [if_neg c10] at H
                have c10b0 : (((rd_T25 l0 x8_1).f2) == a1) = false := beq_eq_false_iff_ne.mpr c10
                have c10b1 : (((rd_T25 l0 x8_1).f2) != a1) = true := bne_iff_ne.mpr c10
                have H' := Aside0.mk H
                clear H
                have p324 : 0 ≤ (x8_1 : Int) := of_decide_eq_true (by first | (with_reducible assumption) | assumption)
                have q324 : x8_1 < (l0.length : Int) := of_decide_eq_true (by first | (with_reducible assumption) | assumption)
                obtain ⟨ad324, A324_3, c324_3, e324, hx324_0, hx324_1, hx324_2, hx324_3, hx324_4, hx324_5, hx324_6, hx324_7, hx324_8, hx324_9, hl324_3, hi324_3⟩ := at_T25 HR0.out x8_1 p324 q324
                cases e324
                replace hx324_0 := (HB.out.cell (World.block_lt_of_cell? w _ hx324_0)).trans hx324_0
                replace hx324_1 := (HB.out.cell (World.block_lt_of_cell? w _ hx324_1)).trans hx324_1
                replace hx324_2 := (HB.out.cell (World.block_lt_of_cell? w _ hx324_2)).trans hx324_2
                replace hx324_3 := (HB.out.cell (World.block_lt_of_cell? w _ hx324_3)).trans hx324_3
                replace hx324_4 := (HB.out.cell (World.block_lt_of_cell? w _ hx324_4)).trans hx324_4
                replace hx324_5 := (HB.out.cell (World.block_lt_of_cell? w _ hx324_5)).trans hx324_5
                replace hx324_6 := (HB.out.cell (World.block_lt_of_cell? w _ hx324_6)).trans hx324_6
                replace hx324_7 := (HB.out.cell (World.block_lt_of_cell? w _ hx324_7)).trans hx324_7
                replace hx324_8 := (HB.out.cell (World.block_lt_of_cell? w _ hx324_8)).trans hx324_8
                replace hx324_9 := (HB.out.cell (World.block_lt_of_cell? w _ hx324_9)).trans hx324_9
                have HR324_3 := Aside0.mk hi324_3
                have HC324_3 := Aside0.mk hl324_3
                clear hi324_3 hl324_3
                replace p324 := eq_true p324
                replace q324 := eq_true q324
                obtain ⟨Ao16, co16, eo16⟩ := Kd.R_slice HO_7.out
                subst eo16
                go_wp2_with (first | ((with_reducible refine gate_callee (f := 53) rfl ?_); refine goesL_ (some 22) rfl rfl Try.func53 (by kernel_rfl) rfl #[.slice Ao16 x7_1.length co16, .int .i64 ((rd_T25 l0 x8_1).f8)] rfl (by (try simp only [List.map_toArray, List.map_cons, List.map_nil]); first | done | rfl | (simp only [List.length_drop, List.length_take]; rfl)) ?_; (with_reducible refine (quietusref38_has.calls k1 _ _ x7_1 ((rd_T25 l0 x8_1).f8) false _ ?side1 ?side2 A6.out).mono ?_); (case side1 => repeat (first | exact (Kd.R_reads' HO_7.out).2.2 | (with_reducible refine Kd.C_alloc ?_ _) | (with_reducible refine Kd.C_drewN ?_ _) | (with_reducible refine Kd.C_drew ?_))); (case side2 => exact (Kd.R_reads' HO_7.out).2.1); rintro e w' ⟨rfl, ⟨nd, rfl⟩⟩; refine ⟨_, rfl, ?_⟩; have p326 : 0 ≤ (x8_1 : Int) := of_decide_eq_true (by first | (with_reducible assumption) | assumption); have q326 : x8_1 < (l0.length : Int) := of_decide_eq_true (by first | (with_reducible assumption) | assumption); obtain ⟨ad326, A326_3, c326_3, e326, hx326_0, hx326_1, hx326_2, hx326_3, hx326_4, hx326_5, hx326_6, hx326_7, hx326_8, hx326_9, hl326_3, hi326_3⟩ := at_T25 HR0.out x8_1 p326 q326; obtain rfl : ad324 = ad326 := (by injection e326); replace hx326_0 := (HB.out.cell (World.block_lt_of_cell? w _ hx326_0)).trans hx326_0; replace hx326_1 := (HB.out.cell (World.block_lt_of_cell? w _ hx326_1)).trans hx326_1; replace hx326_2 := (HB.out.cell (World.block_lt_of_cell? w _ hx326_2)).trans hx326_2; replace hx326_3 := (HB.out.cell (World.block_lt_of_cell? w _ hx326_3)).trans hx326_3; replace hx326_4 := (HB.out.cell (World.block_lt_of_cell? w _ hx326_4)).trans hx326_4; replace hx326_5 := (HB.out.cell (World.block_lt_of_cell? w _ hx326_5)).trans hx326_5; replace hx326_6 := (HB.out.cell (World.block_lt_of_cell? w _ hx326_6)).trans hx326_6; replace hx326_7 := (HB.out.cell (World.block_lt_of_cell? w _ hx326_7)).trans hx326_7; replace hx326_8 := (HB.out.cell (World.block_lt_of_cell? w _ hx326_8)).trans hx326_8; replace hx326_9 := (HB.out.cell (World.block_lt_of_cell? w _ hx326_9)).trans hx326_9; have HR326_3 := Aside0.mk hi326_3; have HC326_3 := Aside0.mk hl326_3; clear hi326_3 hl326_3; replace p326 := eq_true p326; replace q326 := eq_true q326; have ea_ := Option.some.inj (hx324_3.symm.trans hx326_3); injection ea_ with ea_ en_ ec_; subst ea_; subst ec_; clear en_; have p327 : 0 ≤ (x8_1 : Int) := of_decide_eq_true (by first | (with_reducible assumption) | assumption); have q327 : x8_1 < (l0.length : Int) := of_decide_eq_true (by first | (with_reducible assumption) | assumption); obtain ⟨ad327, A327_3, c327_3, e327, hx327_0, hx327_1, hx327_2, hx327_3, hx327_4, hx327_5, hx327_6, hx327_7, hx327_8, hx327_9, hl327_3, hi327_3⟩ := at_T25 HR0.out x8_1 p327 q327; obtain rfl : ad324 = ad327 := (by injection e327); replace hx327_0 := (HB.out.cell (World.block_lt_of_cell? w _ hx327_0)).trans hx327_0; replace hx327_1 := (HB.out.cell (World.block_lt_of_cell? w _ hx327_1)).trans hx327_1; replace hx327_2 := (HB.out.cell (World.block_lt_of_cell? w _ hx327_2)).trans hx327_2; replace hx327_3 := (HB.out.cell (World.block_lt_of_cell? w _ hx327_3)).trans hx327_3; replace hx327_4 := (HB.out.cell (World.block_lt_of_cell? w _ hx327_4)).trans hx327_4; replace hx327_5 := (HB.out.cell (World.block_lt_of_cell? w _ hx327_5)).trans hx327_5; replace hx327_6 := (HB.out.cell (World.block_lt_of_cell? w _ hx327_6)).trans hx327_6; replace hx327_7 := (HB.out.cell (World.block_lt_of_cell? w _ hx327_7)).trans hx327_7; replace hx327_8 := (HB.out.cell (World.block_lt_of_cell? w _ hx327_8)).trans hx327_8; replace hx327_9 := (HB.out.cell (World.block_lt_of_cell? w _ hx327_9)).trans hx327_9; have HR327_3 := Aside0.mk hi327_3; have HC327_3 := Aside0.mk hl327_3; clear hi327_3 hl327_3; replace p327 := eq_true p327; replace q327 := eq_true q327; have ea_ := Option.some.inj (hx324_3.symm.trans hx327_3); injection ea_ with ea_ en_ ec_; subst ea_; subst ec_; clear en_))
                go_roundg k1
                case measure => have := HK1.out; omega
                case rel => exact ⟨(x7_1), (wrap64 (x8_1 + 1)), (by first | rfl | (simp; done) | (simp [*]; done)), H', ⟨by have := HK1.out; omega⟩, ⟨by (with_reducible repeat (first | apply Kd.R_alloc | apply Kd.R_drewN | apply Kd.R_drew)); exact HO_7.out⟩, ⟨by repeat (first | (with_reducible first | exact HB.out | apply below_alloc | apply pw_below_drewN | apply below_drew1) | exact HB.out)⟩⟩
            · rw [if_neg c9] at H
              have c9b0 : (((rd_T25 l0 x8_1).f1) == 3) = false := beq_eq_false_iff_ne.mpr c9
              have c9b1 : (((rd_T25 l0 x8_1).f1) != 3) = true := bne_iff_ne.mpr c9
              have H' := Aside0.mk H
              clear H
              have p324 : 0 ≤ (x8_1 : Int) := of_decide_eq_true (by first | (with_reducible assumption) | assumption)
              have q324 : x8_1 < (l0.length : Int) := of_decide_eq_true (by first | (with_reducible assumption) | assumption)
              obtain ⟨ad324, A324_3, c324_3, e324, hx324_0, hx324_1, hx324_2, hx324_3, hx324_4, hx324_5, hx324_6, hx324_7, hx324_8, hx324_9, hl324_3, hi324_3⟩ := at_T25 HR0.out x8_1 p324 q324
              cases e324
              replace hx324_0 := (HB.out.cell (World.block_lt_of_cell? w _ hx324_0)).trans hx324_0
              replace hx324_1 := (HB.out.cell (World.block_lt_of_cell? w _ hx324_1)).trans hx324_1
              replace hx324_2 := (HB.out.cell (World.block_lt_of_cell? w _ hx324_2)).trans hx324_2
              replace hx324_3 := (HB.out.cell (World.block_lt_of_cell? w _ hx324_3)).trans hx324_3
              replace hx324_4 := (HB.out.cell (World.block_lt_of_cell? w _ hx324_4)).trans hx324_4
              replace hx324_5 := (HB.out.cell (World.block_lt_of_cell? w _ hx324_5)).trans hx324_5
              replace hx324_6 := (HB.out.cell (World.block_lt_of_cell? w _ hx324_6)).trans hx324_6
              replace hx324_7 := (HB.out.cell (World.block_lt_of_cell? w _ hx324_7)).trans hx324_7
              replace hx324_8 := (HB.out.cell (World.block_lt_of_cell? w _ hx324_8)).trans hx324_8
              replace hx324_9 := (HB.out.cell (World.block_lt_of_cell? w _ hx324_9)).trans hx324_9
              have HR324_3 := Aside0.mk hi324_3
              have HC324_3 := Aside0.mk hl324_3
              clear hi324_3 hl324_3
              replace p324 := eq_true p324
              replace q324 := eq_true q324
              obtain ⟨Ao17, co17, eo17⟩ := Kd.R_slice HO_7.out
              subst eo17
              go_wp2_with (first | ((with_reducible refine gate_callee (f := 53) rfl ?_); refine goesL_ (some 22) rfl rfl Try.func53 (by kernel_rfl) rfl #[.slice Ao17 x7_1.length co17, .int .i64 ((rd_T25 l0 x8_1).f8)] rfl (by (try simp only [List.map_toArray, List.map_cons, List.map_nil]); first | done | rfl | (simp only [List.length_drop, List.length_take]; rfl)) ?_; (with_reducible refine (quietusref38_has.calls k1 _ _ x7_1 ((rd_T25 l0 x8_1).f8) false _ ?side1 ?side2 A6.out).mono ?_); (case side1 => repeat (first | exact (Kd.R_reads' HO_7.out).2.2 | (with_reducible refine Kd.C_alloc ?_ _) | (with_reducible refine Kd.C_drewN ?_ _) | (with_reducible refine Kd.C_drew ?_))); (case side2 => exact (Kd.R_reads' HO_7.out).2.1); rintro e w' ⟨rfl, ⟨nd, rfl⟩⟩; refine ⟨_, rfl, ?_⟩; have p326 : 0 ≤ (x8_1 : Int) := of_decide_eq_true (by first | (with_reducible assumption) | assumption); have q326 : x8_1 < (l0.length : Int) := of_decide_eq_true (by first | (with_reducible assumption) | assumption); obtain ⟨ad326, A326_3, c326_3, e326, hx326_0, hx326_1, hx326_2, hx326_3, hx326_4, hx326_5, hx326_6, hx326_7, hx326_8, hx326_9, hl326_3, hi326_3⟩ := at_T25 HR0.out x8_1 p326 q326; obtain rfl : ad324 = ad326 := (by injection e326); replace hx326_0 := (HB.out.cell (World.block_lt_of_cell? w _ hx326_0)).trans hx326_0; replace hx326_1 := (HB.out.cell (World.block_lt_of_cell? w _ hx326_1)).trans hx326_1; replace hx326_2 := (HB.out.cell (World.block_lt_of_cell? w _ hx326_2)).trans hx326_2; replace hx326_3 := (HB.out.cell (World.block_lt_of_cell? w _ hx326_3)).trans hx326_3; replace hx326_4 := (HB.out.cell (World.block_lt_of_cell? w _ hx326_4)).trans hx326_4; replace hx326_5 := (HB.out.cell (World.block_lt_of_cell? w _ hx326_5)).trans hx326_5; replace hx326_6 := (HB.out.cell (World.block_lt_of_cell? w _ hx326_6)).trans hx326_6; replace hx326_7 := (HB.out.cell (World.block_lt_of_cell? w _ hx326_7)).trans hx326_7; replace hx326_8 := (HB.out.cell (World.block_lt_of_cell? w _ hx326_8)).trans hx326_8; replace hx326_9 := (HB.out.cell (World.block_lt_of_cell? w _ hx326_9)).trans hx326_9; have HR326_3 := Aside0.mk hi326_3; have HC326_3 := Aside0.mk hl326_3; clear hi326_3 hl326_3; replace p326 := eq_true p326; replace q326 := eq_true q326; have ea_ := Option.some.inj (hx324_3.symm.trans hx326_3); injection ea_ with ea_ en_ ec_; subst ea_; subst ec_; clear en_))
              go_roundg k1
              case measure => have := HK1.out; omega
              case rel => exact ⟨(x7_1), (wrap64 (x8_1 + 1)), (by first | rfl | (simp; done) | (simp [*]; done)), H', ⟨by have := HK1.out; omega⟩, ⟨by (with_reducible repeat (first | apply Kd.R_alloc | apply Kd.R_drewN | apply Kd.R_drew)); exact HO_7.out⟩, ⟨by repeat (first | (with_reducible first | exact HB.out | apply below_alloc | apply pw_below_drewN | apply below_drew1) | exact HB.out)⟩⟩
        · rw [if_neg c5] at H
          exact absurd H (by simp)
      · rw [if_neg c4] at H
        have c4b0 : decide (x8_1 < (l0.length : Int)) = false := decide_eq_false c4
        clear c4
        obtain rfl := Option.some.inj H
        obtain ⟨Ao18, co18, eo18⟩ := Kd.R_slice HO_7.out
        subst eo18
        go_wp2
        go_ret
        exact ⟨by first | rfl | (simp [errW_none, errW_some] <;> rfl) | (simp [*, errW_none, errW_some] <;> rfl), by repeat (first | (with_reducible first | exact HB.out | apply below_alloc | apply pw_below_drewN | apply below_drew1) | exact HB.out)⟩

-- NOT PRINTED: function 4 (quietuslaw38_TraceSeesAsSpecified)

end Go.Proofs.Ytlelhmephibfjaa.T

namespace Go.Proofs.Ytlelhmephibfjaa.T
set_option linter.unusedVariables false
set_option linter.unusedSimpArgs false
open Go.RowKit Go.Proofs.YtlelhmephibfjaaW.PrintWords Go.Proofs.YtlelhmephibfjaaW.PrintLast Go.Proofs.YtlelhmephibfjaaW.PrintMore

/-- how many of the first n numbers a list holds -/
def cntL (xs : List Int) : Nat → Nat
  | 0 => 0
  | h + 1 => cntL xs h + if (h : Int) ∈ xs then 1 else 0
theorem cntL_nil : ∀ n, cntL [] n = 0
  | 0 => rfl
  | n + 1 => by unfold cntL; rw [cntL_nil n]; simp
theorem cntL_cons (x : Int) (xs : List Int) (hx : x ∉ xs) (h0 : 0 ≤ x) : ∀ n : Nat, cntL (x :: xs) n = cntL xs n + if x < n then 1 else 0
  | 0 => by unfold cntL; rw [if_neg (by omega)]
  | n + 1 => by
    unfold cntL
    rw [cntL_cons x xs hx h0 n]
    have em : ((n : Int) ∈ x :: xs) ↔ ((n : Int) = x ∨ (n : Int) ∈ xs) := List.mem_cons
    by_cases e : (n : Int) = x
    · have a0 : ¬ (n : Int) ∈ xs := fun h => hx (e ▸ h)
      have a1 : ¬ x < (n : Int) := by omega
      have a2 : x < ((n + 1 : Nat) : Int) := by omega
      rw [if_pos (em.2 (.inl e)), if_neg a0, if_neg a1, if_pos a2]
    · by_cases hm : (n : Int) ∈ xs
      · rw [if_pos (em.2 (.inr hm)), if_pos hm]
        by_cases h1 : x < (n : Int)
        · have a2 : x < ((n + 1 : Nat) : Int) := by omega
          rw [if_pos h1, if_pos a2]
        · have a2 : ¬ x < ((n + 1 : Nat) : Int) := by omega
          rw [if_neg h1, if_neg a2]
      · rw [if_neg (fun h => (em.1 h).elim e hm), if_neg hm]
        by_cases h1 : x < (n : Int)
        · have a2 : x < ((n + 1 : Nat) : Int) := by omega
          rw [if_pos h1, if_pos a2]
        · have a2 : ¬ x < ((n + 1 : Nat) : Int) := by omega
          rw [if_neg h1, if_neg a2]
theorem cntL_len : ∀ (xs : List Int) (n : Nat), xs.Nodup → (∀ x ∈ xs, 0 ≤ x ∧ x < n) → cntL xs n = xs.length
  | [], n, _, _ => cntL_nil n
  | x :: xs, n, hn, hb => by
    obtain ⟨h1, h2⟩ := List.nodup_cons.1 hn
    have hx := hb x List.mem_cons_self
    rw [cntL_cons x xs h1 hx.1, cntL_len xs n h2 (fun y hy => hb y (List.mem_cons_of_mem _ hy)), if_pos hx.2]
    rfl
def shareB (o p : Int) (a : S25) : Bool := decide (a.f1 = 3) && (decide (a.f2 = o) && decide (a.f9 = p))
def hstep (o p : Int) (acc : List Int) (a : S25) : List Int := if a.f8 ∈ acc then acc else if shareB o p a = true then acc ++ [a.f8] else acc
theorem hold_inv (o p : Int) : ∀ (xs : List S25) (acc : List Int), acc.Nodup → (xs.foldl (hstep o p) acc).Nodup ∧ ∀ x, x ∈ xs.foldl (hstep o p) acc ↔ x ∈ acc ∨ ∃ a ∈ xs, shareB o p a = true ∧ a.f8 = x
  | [], acc, h => ⟨h, fun x => by simp⟩
  | a :: r, acc, h => by
    rw [List.foldl_cons]
    unfold hstep
    by_cases h1 : a.f8 ∈ acc
    · rw [if_pos h1]
      obtain ⟨g1, g2⟩ := hold_inv o p r acc h
      refine ⟨g1, fun x => (g2 x).trans ⟨?_, ?_⟩⟩
      · rintro (hx | ⟨b, hb, hs, he⟩)
        · exact .inl hx
        · exact .inr ⟨b, List.mem_cons_of_mem _ hb, hs, he⟩
      · rintro (hx | ⟨b, hb, hs, he⟩)
        · exact .inl hx
        · rcases List.mem_cons.1 hb with rfl | hb
          · exact .inl (he ▸ h1)
          · exact .inr ⟨b, hb, hs, he⟩
    · rw [if_neg h1]
      by_cases h2 : shareB o p a = true
      · rw [if_pos h2]
        obtain ⟨g1, g2⟩ := hold_inv o p r (acc ++ [a.f8]) (List.nodup_append.2 ⟨h, by simp, fun x hx y hy => by rw [List.mem_singleton.1 hy]; rintro rfl; exact h1 hx⟩)
        refine ⟨g1, fun x => (g2 x).trans ⟨?_, ?_⟩⟩
        · rintro (hx | ⟨b, hb, hs, he⟩)
          · rcases List.mem_append.1 hx with hx | hx
            · exact .inl hx
            · exact .inr ⟨a, List.mem_cons_self, h2, (List.mem_singleton.1 hx).symm⟩
          · exact .inr ⟨b, List.mem_cons_of_mem _ hb, hs, he⟩
        · rintro (hx | ⟨b, hb, hs, he⟩)
          · exact .inl (List.mem_append_left _ hx)
          · rcases List.mem_cons.1 hb with rfl | hb
            · exact .inl (List.mem_append_right _ (by rw [he]; exact List.mem_singleton_self _))
            · exact .inr ⟨b, hb, hs, he⟩
      · rw [if_neg h2]
        obtain ⟨g1, g2⟩ := hold_inv o p r acc h
        refine ⟨g1, fun x => (g2 x).trans ⟨?_, ?_⟩⟩
        · rintro (hx | ⟨b, hb, hs, he⟩)
          · exact .inl hx
          · exact .inr ⟨b, List.mem_cons_of_mem _ hb, hs, he⟩
        · rintro (hx | ⟨b, hb, hs, he⟩)
          · exact .inl hx
          · rcases List.mem_cons.1 hb with rfl | hb
            · exact absurd hs h2
            · exact .inr ⟨b, hb, hs, he⟩
theorem hold_cnt (xs : List S25) (o : Int) (p : Nat) (ho : ∀ a ∈ xs, a.f2 = o) (hh : ∀ a ∈ xs, a.f1 = 3 → 0 ≤ a.f8 ∧ a.f8 ≤ 11) : (xs.foldl (hstep o p) []).length = cntF xs p 12 := by
  obtain ⟨g1, g2⟩ := hold_inv o p xs [] (by simp)
  have hb : ∀ x ∈ xs.foldl (hstep o p) [], 0 ≤ x ∧ x < (12 : Nat) := by
    intro x hx
    rcases (g2 x).1 hx with h | ⟨a, ha, hs, rfl⟩
    · cases h
    · unfold shareB at hs
      simp at hs
      have := hh a ha hs.1
      omega
  rw [← cntL_len _ 12 g1 hb]
  have key : ∀ n, cntL (xs.foldl (hstep o p) []) n = cntF xs p n := by
    intro n
    induction n with
    | zero => rfl
    | succ n ih =>
      unfold cntL cntF
      rw [ih]
      congr 1
      have e : ((n : Int) ∈ xs.foldl (hstep o p) []) ↔ holF xs p n = true := by
        rw [g2]
        unfold holF
        rw [List.any_eq_true]
        constructor
        · rintro (h | ⟨a, ha, hs, he⟩)
          · cases h
          · unfold shareB at hs
            simp at hs
            exact ⟨a, ha, by simp [hs.1, hs.2.2, he]⟩
        · rintro ⟨a, ha, hs⟩
          simp at hs
          exact .inr ⟨a, ha, by unfold shareB; simp [hs.1, hs.2.1, ho a ha], hs.2.2⟩
      by_cases h : holF xs p n = true
      · rw [if_pos (e.2 h), if_pos h]
      · rw [if_neg (fun x => h (e.1 x)), if_neg h]
  exact key 12
theorem hold_le (o p : Int) : ∀ (xs : List S25) (acc : List Int), (xs.foldl (hstep o p) acc).length ≤ acc.length + xs.length
  | [], acc => by simp
  | a :: r, acc => by
    rw [List.foldl_cons]
    refine Nat.le_trans (hold_le o p r _) ?_
    unfold hstep
    split
    · simp
    split <;> simp <;> omega
theorem holders_r (xs : List S25) (o p : Int) (hl : xs.length ≤ 1000) : Ev (fun k => quietusref38_holders.f k xs o p) ((xs.foldl (hstep o p) []).length : Int) := by
  have := fold_loop (fun k s j => quietusref38_holders.l0 k xs o p s j) xs (hstep o p) (fun s => (s.length : Int)) (fun j s => s.length ≤ j)
    (fun j h s hs => by
      unfold hstep
      split
      · omega
      split
      · simp only [List.length_append, List.length_cons, List.length_nil]; omega
      · omega)
    (fun j h s hs r hr => by
      have hh := has_r s xs[j].f8 (by omega)
      unfold hstep at hr
      refine Ev.step (fun k => by simp only [quietusref38_holders.l0]; rw [if_pos (by omega), if_pos (by omega), rd25_get xs j h, wrap_succ j (by omega)]) (Ev.bind hh ?_)
      by_cases h1 : xs[j].f8 ∈ s
      · rw [if_pos h1] at hr
        simp only [decide_eq_true h1, if_true]
        exact hr
      · rw [if_neg h1] at hr
        simp only [decide_eq_false h1, Bool.false_eq_true, if_false]
        unfold shareB at hr
        by_cases h2 : xs[j].f1 = 3
        · by_cases h3 : xs[j].f2 = o
          · by_cases h4 : xs[j].f9 = p
            · rw [if_pos (by simp [h2, h3, h4])] at hr
              simp only [if_pos h2, if_pos h3, if_pos h4, if_pos (show s.length < 17592186044416 by omega)]
              exact hr
            · rw [if_neg (by simp [h4])] at hr
              simp only [if_pos h2, if_pos h3, if_neg h4]
              exact hr
          · rw [if_neg (by simp [h3])] at hr
            simp only [if_pos h2, if_neg h3]
            exact hr
        · rw [if_neg (by simp [h2])] at hr
          simp only [if_neg h2]
          exact hr)
    (fun s hs => ev_step1 fun k => by simp only [quietusref38_holders.l0]; rw [if_neg (by omega)])
    xs.length 0 [] (by omega) (by simp)
  rw [List.drop_zero] at this
  exact this

/-- whether enough holders are told by some share -/
def enoughB (xs : List S25) (o need : Int) (a : S25) : Bool := decide (a.f1 = 3) && decide (need ≤ ((xs.foldl (hstep o a.f9) []).length : Int))
theorem cnt_pos {xs : List S25} {p : Nat} : ∀ n, 0 < cntF xs p n → ∃ a ∈ xs, a.f1 = 3 ∧ a.f9 = p
  | 0, h => by cases h
  | n + 1, h => by
    unfold cntF at h
    by_cases hh : holF xs p n = true
    · unfold holF at hh
      obtain ⟨a, ha, hs⟩ := List.any_eq_true.1 hh
      simp at hs
      exact ⟨a, ha, hs.1, hs.2.1⟩
    · rw [if_neg hh] at h
      exact cnt_pos n (by omega)
theorem en_iff (xs : List S25) (need : Int) : ∀ n, enF xs need n = true ↔ ∃ p < n, need ≤ (cntF xs p 12 : Int)
  | 0 => by simp [enF]
  | n + 1 => by
    unfold enF
    rw [Bool.or_eq_true, en_iff xs need n, decide_eq_true_eq]
    constructor
    · rintro (⟨p, hp, h⟩ | h)
      · exact ⟨p, by omega, h⟩
      · exact ⟨n, by omega, h⟩
    · rintro ⟨p, hp, h⟩
      by_cases e : p = n
      · subst e; exact .inr h
      · exact .inl ⟨p, by omega, h⟩
theorem en_any (xs : List S25) (o need : Int) (hn : 1 ≤ need) (ho : ∀ a ∈ xs, a.f2 = o) (hh : ∀ a ∈ xs, a.f1 = 3 → 0 ≤ a.f8 ∧ a.f8 ≤ 11 ∧ 0 ≤ a.f9 ∧ a.f9 ≤ 499) : xs.any (enoughB xs o need) = enF xs need 500 := by
  rw [Bool.eq_iff_iff, en_iff, List.any_eq_true]
  have hc : ∀ p : Nat, (xs.foldl (hstep o p) []).length = cntF xs p 12 := fun p => hold_cnt xs o p ho (fun a ha h3 => ⟨(hh a ha h3).1, (hh a ha h3).2.1⟩)
  constructor
  · rintro ⟨a, ha, he⟩
    unfold enoughB at he
    simp at he
    have hb := hh a ha he.1
    refine ⟨a.f9.toNat, by omega, ?_⟩
    rw [← hc, show ((a.f9.toNat : Nat) : Int) = a.f9 by omega]
    exact he.2
  · rintro ⟨p, hp, he⟩
    obtain ⟨a, ha, h3, h9⟩ := cnt_pos (xs := xs) (p := p) 12 (by omega)
    refine ⟨a, ha, ?_⟩
    unfold enoughB
    simp [h3]
    rw [h9, hc]
    exact he
end Go.Proofs.Ytlelhmephibfjaa.T
