/- VerdictsAreAsSpecified, walked: whatever the numbers, the program's Choose, Miss, Enough, Least and Rounds return what the reference's return. -/
import Derived.Test.YtkmfaiehhfjjmaaA4
import Derived.Test.YtkmfaiehhfjjmaaV7
namespace Go.Proofs.Ytkmfaiehhfjjmaa.A
open Go.RowKit Go.Proofs.Ytkmfaiehhfjjmaa.V Go.Proofs.Ytkmfaiehhfjjmaa.Math Go.Proofs.YtkmfaiehhfjjmaaW.PrintWords Go.Proofs.YtkmfaiehhfjjmaaW.PrintLast
theorem lt_of_cell {w : World} {p : Addr} {v : Value} (h : w.cell? p = some v) : p.block < w.heap.size := by
  unfold World.cell? at h
  rcases Nat.lt_or_ge p.block w.heap.size with g | g
  · exact g
  · rw [Array.getElem?_eq_none g] at h; cases h
theorem keep_cell {W w2 : World} {p : Addr} {v : Value} (h : Below W.heap.size W w2) (hp : W.cell? p = some v) : w2.cell? p = some v := (h.cell (lt_of_cell hp)).trans hp
theorem keep_alloc {w : World} {p : Addr} {v : Value} {o : Obj} (h : w.cell? p = some v) : (w.alloc o).cell? p = some v := by
  exact (World.cell?_of_block (w := w) (Below.heap_alloc w o p.block (lt_of_cell h))).trans h
set_option maxHeartbeats 8000000 in
set_option maxRecDepth 100000 in
theorem law1_walk (n b c r o : Int) (w : World) (hn : -9223372036854775808 ≤ n) (hb : -9223372036854775808 ≤ b) :
    Calls Try.prog 3 #[.int .i64 n, .int .i64 b, .int .i64 c, .agg #[.int .i64 r, .int .i64 o]] w fun e w' => e = .returned (.bool true) ∧ Below w.heap.size w w' := by
  obtain ⟨k1, g1⟩ := (chooseV n c).rounds
  obtain ⟨k2, g2⟩ := (missV n b c hn hb).rounds
  obtain ⟨k3, g3⟩ := (enoughV n b c r o hn hb).rounds
  obtain ⟨k4, g4⟩ := (leastV n b o hn hb).rounds
  obtain ⟨k5, g5⟩ := (roundsV n b c o hn hb).rounds
  obtain ⟨k6, g6⟩ := (chooseR n c).rounds
  obtain ⟨k7, g7⟩ := (missR n b c hn hb).rounds
  obtain ⟨k8, g8⟩ := (enoughR n b c r o hn hb).rounds
  obtain ⟨k9, g9⟩ := (leastR n b o hn hb).rounds
  obtain ⟨k10, g10⟩ := (roundsR n b c o hn hb).rounds
  generalize chooseS n c = s1 at *
  generalize missS n b c = s2 at *
  generalize enoughS n b c r o = s3 at *
  generalize leastS n b o = s4 at *
  generalize roundsS n b c o = s5 at *
  obtain ⟨a1, a2⟩ := s1
  obtain ⟨b1, b2, b3⟩ := s2
  obtain ⟨c1, c2⟩ := s3
  obtain ⟨d1, d2⟩ := s4
  obtain ⟨e1, e2⟩ := s5
  have G1 := Aside0.mk g1
  have G2 := Aside0.mk g2
  have G3 := Aside0.mk g3
  have G4 := Aside0.mk g4
  have G5 := Aside0.mk g5
  have G6 := Aside0.mk g6
  have G7 := Aside0.mk g7
  have G8 := Aside0.mk g8
  have G9 := Aside0.mk g9
  have G10 := Aside0.mk g10
  clear g1 g2 g3 g4 g5 g6 g7 g8 g9 g10 hn hb
  have hu22 := Try.underlying22
  have hu33 := Try.underlying33
  have hu36 := Try.underlying36
  have hu39 := Try.underlying39
  have HB := Aside0.mk (Below.refl w.heap.size w)
  go_enter Try.func3, Try.ntmps3
  go_wp2
  go_quiet (fail)
  go_wp2_with fail
  refine (verdict_Choose.calls _ _ _ _ _ _ G1.out).mono ?_
  rintro e w1 ⟨rfl, h1⟩
  have HB1 := Aside0.mk (below_step (by repeat (first | exact HB.out | apply below_alloc | apply pw_below_drewN | apply below_drew1)) h1)
  clear HB
  have HB := HB1
  clear HB1
  clear h1
  go_wp2_with fail
  refine (verdict_Miss.calls _ _ _ _ _ _ _ _ G2.out).mono ?_
  rintro e w2 ⟨rfl, h1⟩
  have HB2 := Aside0.mk (below_step (by repeat (first | exact HB.out | apply below_alloc | apply pw_below_drewN | apply below_drew1)) h1)
  clear HB
  have HB := HB2
  clear HB2
  clear h1
  go_wp2_with fail
  refine (verdict_Enough.calls _ _ _ _ _ _ _ _ _ G3.out).mono ?_
  rintro e w3 ⟨rfl, h1⟩
  have HB3 := Aside0.mk (below_step (by repeat (first | exact HB.out | apply below_alloc | apply pw_below_drewN | apply below_drew1)) h1)
  clear HB
  have HB := HB3
  clear HB3
  clear h1
  go_wp2_with fail
  refine (verdict_Least.calls _ _ _ _ _ _ _ G4.out).mono ?_
  rintro e w4 ⟨rfl, h1⟩
  have HB4 := Aside0.mk (below_step (by repeat (first | exact HB.out | apply below_alloc | apply pw_below_drewN | apply below_drew1)) h1)
  clear HB
  have HB := HB4
  clear HB4
  clear h1
  go_wp2_with fail
  refine (verdict_Rounds.calls _ _ _ _ _ _ _ _ G5.out).mono ?_
  rintro e w5 ⟨rfl, h1⟩
  have HB5 := Aside0.mk (below_step (by repeat (first | exact HB.out | apply below_alloc | apply pw_below_drewN | apply below_drew1)) h1)
  clear HB
  have HB := HB5
  clear HB5
  clear h1
  go_wp2_with fail
  refine (quietusref46_Choose.calls _ _ _ _ _ _ G6.out).mono ?_
  rintro e w6 ⟨rfl, h1⟩
  have HB6 := Aside0.mk (below_step (by repeat (first | exact HB.out | apply below_alloc | apply pw_below_drewN | apply below_drew1)) h1)
  clear HB
  have HB := HB6
  clear HB6
  clear h1
  go_wp2_with fail
  refine (quietusref46_Miss.calls _ _ _ _ _ _ _ _ G7.out).mono ?_
  rintro e w7 ⟨rfl, h1⟩
  have HB7 := Aside0.mk (below_step (by repeat (first | exact HB.out | apply below_alloc | apply pw_below_drewN | apply below_drew1)) h1)
  clear HB
  have HB := HB7
  clear HB7
  have fA0 := keep_cell h1 (v := .int .i64 a1) (p := ⟨w6.heap.size, 0, none⟩) (by rw [World.cell?_alloc_at _ _ _ _ rfl]; rfl)
  have fA1 := keep_cell h1 (v := .int .i64 a2) (p := ⟨w6.heap.size, 1, none⟩) (by rw [World.cell?_alloc_at _ _ _ _ rfl]; rfl)
  clear h1
  go_wp2_with fail
  refine (quietusref46_Enough.calls _ _ _ _ _ _ _ _ _ G8.out).mono ?_
  rintro e w8 ⟨rfl, h1⟩
  have HB8 := Aside0.mk (below_step (by repeat (first | exact HB.out | apply below_alloc | apply pw_below_drewN | apply below_drew1)) h1)
  clear HB
  have HB := HB8
  clear HB8
  have fB0 := keep_cell h1 (v := .int .i64 b1) (p := ⟨w7.heap.size, 0, none⟩) (by rw [World.cell?_alloc_at _ _ _ _ rfl]; rfl)
  have fB1 := keep_cell h1 (v := .int .i64 b2) (p := ⟨w7.heap.size, 1, none⟩) (by rw [World.cell?_alloc_at _ _ _ _ rfl]; rfl)
  have fB2 := keep_cell h1 (v := .int .i64 b3) (p := ⟨w7.heap.size, 2, none⟩) (by rw [World.cell?_alloc_at _ _ _ _ rfl]; rfl)
  replace fA0 := keep_cell h1 (keep_alloc fA0)
  replace fA1 := keep_cell h1 (keep_alloc fA1)
  clear h1
  go_wp2_with fail
  refine (quietusref46_Least.calls _ _ _ _ _ _ _ G9.out).mono ?_
  rintro e w9 ⟨rfl, h1⟩
  have HB9 := Aside0.mk (below_step (by repeat (first | exact HB.out | apply below_alloc | apply pw_below_drewN | apply below_drew1)) h1)
  clear HB
  have HB := HB9
  clear HB9
  have fC0 := keep_cell h1 (v := .bool c1) (p := ⟨w8.heap.size, 0, none⟩) (by rw [World.cell?_alloc_at _ _ _ _ rfl]; rfl)
  have fC1 := keep_cell h1 (v := .int .i64 c2) (p := ⟨w8.heap.size, 1, none⟩) (by rw [World.cell?_alloc_at _ _ _ _ rfl]; rfl)
  replace fA0 := keep_cell h1 (keep_alloc fA0)
  replace fA1 := keep_cell h1 (keep_alloc fA1)
  replace fB0 := keep_cell h1 (keep_alloc fB0)
  replace fB1 := keep_cell h1 (keep_alloc fB1)
  replace fB2 := keep_cell h1 (keep_alloc fB2)
  clear h1
  go_wp2_with fail
  refine (quietusref46_Rounds.calls _ _ _ _ _ _ _ _ G10.out).mono ?_
  rintro e w10 ⟨rfl, h1⟩
  have HB10 := Aside0.mk (below_step (by repeat (first | exact HB.out | apply below_alloc | apply pw_below_drewN | apply below_drew1)) h1)
  clear HB
  have HB := HB10
  clear HB10
  have fD0 := keep_cell h1 (v := .int .i64 d1) (p := ⟨w9.heap.size, 0, none⟩) (by rw [World.cell?_alloc_at _ _ _ _ rfl]; rfl)
  have fD1 := keep_cell h1 (v := .int .i64 d2) (p := ⟨w9.heap.size, 1, none⟩) (by rw [World.cell?_alloc_at _ _ _ _ rfl]; rfl)
  replace fA0 := keep_cell h1 (keep_alloc fA0)
  replace fA1 := keep_cell h1 (keep_alloc fA1)
  replace fB0 := keep_cell h1 (keep_alloc fB0)
  replace fB1 := keep_cell h1 (keep_alloc fB1)
  replace fB2 := keep_cell h1 (keep_alloc fB2)
  replace fC0 := keep_cell h1 (keep_alloc fC0)
  replace fC1 := keep_cell h1 (keep_alloc fC1)
  clear h1
  have gA0 := keep_alloc (o := .cells #[.int .i64 e1, .int .i64 e2] 33) fA0
  have gA1 := keep_alloc (o := .cells #[.int .i64 e1, .int .i64 e2] 33) fA1
  have gB0 := keep_alloc (o := .cells #[.int .i64 e1, .int .i64 e2] 33) fB0
  have gB1 := keep_alloc (o := .cells #[.int .i64 e1, .int .i64 e2] 33) fB1
  have gB2 := keep_alloc (o := .cells #[.int .i64 e1, .int .i64 e2] 33) fB2
  have gC0 := keep_alloc (o := .cells #[.int .i64 e1, .int .i64 e2] 33) fC0
  have gC1 := keep_alloc (o := .cells #[.int .i64 e1, .int .i64 e2] 33) fC1
  have gD0 := keep_alloc (o := .cells #[.int .i64 e1, .int .i64 e2] 33) fD0
  have gD1 := keep_alloc (o := .cells #[.int .i64 e1, .int .i64 e2] 33) fD1
  clear fA0 fA1 fB0 fB1 fB2 fC0 fC1 fD0 fD1
  go_wp2_with fail
  refine (quietuslaw46_sanity.calls true _ rfl).mono ?_
  rintro e w11 ⟨rfl, h1⟩
  have HB11 := Aside0.mk (below_step (by repeat (first | exact HB.out | apply below_alloc | apply pw_below_drewN | apply below_drew1)) h1)
  clear HB
  have HB := HB11
  clear HB11
  have fE0 := keep_cell h1 (v := .int .i64 e1) (p := ⟨w10.heap.size, 0, none⟩) (by rw [World.cell?_alloc_at _ _ _ _ rfl]; rfl)
  have fE1 := keep_cell h1 (v := .int .i64 e2) (p := ⟨w10.heap.size, 1, none⟩) (by rw [World.cell?_alloc_at _ _ _ _ rfl]; rfl)
  replace gA0 := keep_cell h1 gA0
  replace gA1 := keep_cell h1 gA1
  replace gB0 := keep_cell h1 gB0
  replace gB1 := keep_cell h1 gB1
  replace gB2 := keep_cell h1 gB2
  replace gC0 := keep_cell h1 gC0
  replace gC1 := keep_cell h1 gC1
  replace gD0 := keep_cell h1 gD0
  replace gD1 := keep_cell h1 gD1
  clear h1
  go_wp2
  go_ret
  exact ⟨rfl, HB.out⟩
end Go.Proofs.Ytkmfaiehhfjjmaa.A
