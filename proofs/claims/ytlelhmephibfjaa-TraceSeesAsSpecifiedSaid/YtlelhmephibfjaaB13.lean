/- Texts of this claim, laid together: L4. -/
import Derived.Test.YtlelhmephibfjaaB7
import Derived.Test.YtlelhmephibfjaaB11
import Derived.Test.YtlelhmephibfjaaB12
import Derived.Deep.DeepCutAuto

namespace Go.Proofs.Ytlelhmephibfjaa.T
set_option linter.unusedVariables false
set_option linter.unusedSimpArgs false
open Go.RowKit Go.Proofs.YtlelhmephibfjaaW.PrintWords Go.Proofs.YtlelhmephibfjaaW.PrintLast Go.Proofs.YtlelhmephibfjaaW.PrintMore

theorem atS_le (l : List S25) (o t : Int) (h : l.length ≤ 1000) : (AtS l o t).1.length ≤ 1000 := by
  unfold AtS
  split
  · simp
  · simp only [List.length_map]
    refine Nat.le_trans (List.length_filter_le _ _) ?_
    unfold ofS
    exact Nat.le_trans (List.length_filter_le _ _) h
theorem lateS_le (l : List S25) (o t : Int) (h : l.length ≤ 1000) : (LateS l o t).1.length ≤ 1000 := by
  unfold LateS
  split
  · simp
  · unfold lateF
    simp only [List.length_map]
    refine Nat.le_trans (List.length_filter_le _ _) ?_
    unfold ofS
    exact Nat.le_trans (List.length_filter_le _ _) h
theorem hasS_len (l : List S25) (b : Int) (ca : List S71) (h : l.length ≤ 1000) : (HasS l b ca).1.length ≤ 1000 := by
  unfold HasS
  split
  · simp
  split
  · simp
  · simp only [List.length_map]
    exact Nat.le_trans (List.length_filter_le _ _) h
set_option maxRecDepth 100000 in
set_option maxHeartbeats 8000000 in
theorem law4_walk (A : Option Addr) (c : Nat) (l : List S25) (o t need : Int) (bad : Int) (Ac : Option Addr) (cc : Nat) (caps : List S71) (w : World) (hr : Kd.C k25 w A l.length l) (hc : l.length ≤ c)
    (hcap : Kd.C k71 w Ac caps.length caps) (hcc : caps.length ≤ cc) :
    Calls Try.prog 4 #[.slice A l.length c, .agg #[.int .i64 o, .int .i64 t, .int .i64 need], .agg #[.int .i64 bad, .slice Ac caps.length cc]] w fun e w' => e = .returned (.bool true) ∧ Below w.heap.size w w' := by
  have hu25 := Try.underlying25
  have hu48 := Try.underlying48
  have hu26 := Try.underlying26
  have hu40 := Try.underlying40
  have hu54 := Try.underlying54
  have hu63 := Try.underlying63
  have HL := Aside0.mk hr
  have HC := Aside0.mk hcap
  clear hr hcap
  go_enter Try.func4, Try.ntmps4
  go_upto_region 1 with (fail)
  have K4 := Aside0.mk (blk_alloc (blk_new w (.cells #[.int .i64 o, .int .i64 t, .int .i64 need] 26)) (.cells #[.int .i64 bad, .slice Ac caps.length cc] 48))
  have K5 := Aside0.mk (blk_new (w.alloc (.cells #[.int .i64 o, .int .i64 t, .int .i64 need] 26)) (.cells #[.int .i64 bad, .slice Ac caps.length cc] 48))
  rw [World.size_alloc] at K5
  have HB : Aside0 (Below w.heap.size w ((w.alloc (.cells #[.int .i64 o, .int .i64 t, .int .i64 need] 26)).alloc (.cells #[.int .i64 bad, .slice Ac caps.length cc] 48))) := ⟨below_alloc (below_alloc (Below.refl _ _) _) _⟩
  replace HL := Aside0.mk (Kd.C_below HL.out HB.out)
  replace HC := Aside0.mk (Kd.C_below HC.out HB.out)
  generalize ((w.alloc (.cells #[.int .i64 o, .int .i64 t, .int .i64 need] 26)).alloc (.cells #[.int .i64 bad, .slice Ac caps.length cc] 48)) = w0 at *
  go_cut [40] (fun v wc => ∃ b, v = .bool b ∧ Aside0 (b = false → l.length ≤ 410 ∧ ∀ x ∈ l, x.f3.length ≤ 1000) ∧ Aside0 (Below w0.heap.size w0 wc))
  case first =>
    obtain ⟨kf, fr, hf, hfew⟩ := few_t l 20
    have HF := Aside0.mk hf
    have HFEW := Aside0.mk hfew
    clear hf hfew
    go_wp2_with fail
    refine (quietusref38_Few.calls kf A c l 20 fr _ HL.out hc HF.out).mono ?_
    rintro e w1 ⟨rfl, hb⟩
    have HB1 := Aside0.mk hb.below
    replace K5 := Aside0.mk (blk_below K5.out hb.below)
    clear hb HF
    cases fr with
    | false =>
      clear K5
      go_wp2_with fail
      go_meet
      case rel => exact ⟨true, rfl, ⟨fun h => by cases h⟩, HB1⟩
    | true =>
      have k5 := blk_cell K5.out
      have HR : Aside0 (l.length ≤ 410 ∧ ∀ x ∈ l, x.f3.length ≤ 1000) := ⟨(HFEW.out rfl).1, fun x hx => Nat.le_trans ((HFEW.out rfl).2 x hx) (by decide)⟩
      clear HFEW K5
      by_cases h20 : caps.length ≤ 20
      · have g0 : decide ((20 : Int) < caps.length) = false := by simp; omega
        go_wp2_with fail
        go_meet
        case rel => exact ⟨false, rfl, ⟨fun _ => HR.out⟩, HB1⟩
      · have g0 : decide ((20 : Int) < caps.length) = true := by simp; omega
        by_cases h500 : caps.length ≤ 500
        · have g1 : decide ((caps.length : Int) ≤ 500) = true := by simp; omega
          go_wp2_with fail
          go_meet
          case rel => exact ⟨true, rfl, ⟨fun h => by cases h⟩, HB1⟩
        · have g1 : decide ((caps.length : Int) ≤ 500) = false := by simp; omega
          go_wp2_with fail
          go_meet
          case rel => exact ⟨false, rfl, ⟨fun _ => HR.out⟩, HB1⟩
  case rest =>
  obtain ⟨b, rfl, HR, HBc⟩ := hcut
  replace HB := Aside0.mk (below_step HB.out HBc.out)
  replace K4 := Aside0.mk (blk_below K4.out HBc.out)
  replace K5 := Aside0.mk (blk_below K5.out HBc.out)
  replace HL := Aside0.mk (Kd.C_below HL.out HBc.out)
  replace HC := Aside0.mk (Kd.C_below HC.out HBc.out)
  clear HBc
  cases b with
  | true =>
    go_wp2_with fail
    refine (sanity_calls _).mono ?_
    rintro e ws ⟨rfl, hbs⟩
    have HBS := Aside0.mk (below_step HB.out hbs)
    clear hbs
    go_wp2
    go_ret
    exact ⟨rfl, HBS.out⟩
  | false =>
  obtain ⟨hl, hof⟩ := HR.out rfl
  have HOF := Aside0.mk hof
  have L1 := atS_le l o t (by omega)
  have L2 := lateS_le l o t (by omega)
  have L3 := hasS_len l bad caps (by omega)
  obtain ⟨ka, ha⟩ := (at_r l o t (by omega) hof).rounds
  obtain ⟨kw, hw⟩ := (where_r l o t (by omega) hof).rounds
  obtain ⟨kt, ht⟩ := (trail_r l o (by omega) hof).rounds
  have HA := Aside0.mk ha
  have HW := Aside0.mk hw
  have HT := Aside0.mk ht
  clear hof HR ha hw ht
  have kK4 := blk_cell K4.out
  go_wp2_with fail
  refine (at_calls A c l o t _ HL.out hc (by omega) HOF.out).mono ?_
  clear kK4
  rintro e w1 ⟨v, rfl, hR, hb⟩
  obtain ⟨A7, c7, rfl, h7, hC_⟩ := Kd.R_reads hR
  have H7 := Aside0.mk hC_
  replace HB := Aside0.mk (below_step HB.out hb)
  replace HL := Aside0.mk (Kd.C_below HL.out hb)
  replace HC := Aside0.mk (Kd.C_below HC.out hb)
  replace K4 := Aside0.mk (blk_below K4.out hb)
  replace K5 := Aside0.mk (blk_below K5.out hb)
  clear hb hR hC_
  have kK4 := blk_cell K4.out
  go_wp2_with fail
  refine (quietusref38_At.calls ka A c l o t (AtS l o t).1 (AtS l o t).2 _ HL.out hc HA.out).mono ?_
  clear kK4
  rintro e w2 ⟨v, rfl, hR, hb⟩
  obtain ⟨A9, c9, rfl, h9, hC_⟩ := Kd.R_reads hR
  have H9 := Aside0.mk hC_
  replace HB := Aside0.mk (below_step HB.out hb)
  replace HL := Aside0.mk (Kd.C_below HL.out hb)
  replace HC := Aside0.mk (Kd.C_below HC.out hb)
  replace K4 := Aside0.mk (blk_below K4.out hb)
  replace K5 := Aside0.mk (blk_below K5.out hb)
  replace H7 := Aside0.mk (Kd.C_below H7.out hb)
  clear hb hR hC_
  have kK4 := blk_cell (blk_alloc K4.out (.cells #[.slice A9 (AtS l o t).1.length c9, .int .i64 (AtS l o t).2] 40))
  go_wp2_with fail
  refine (where_calls A c l o t _ (Kd.C_alloc HL.out _) hc (by omega) HOF.out).mono ?_
  clear kK4
  rintro e w3 ⟨rfl, hb⟩
  replace HB := Aside0.mk (below_step (below_alloc HB.out _) hb)
  replace HL := Aside0.mk (Kd.C_below (Kd.C_alloc HL.out _) hb)
  replace HC := Aside0.mk (Kd.C_below (Kd.C_alloc HC.out _) hb)
  replace K4 := Aside0.mk (blk_below (blk_alloc K4.out _) hb)
  replace K5 := Aside0.mk (blk_below (blk_alloc K5.out _) hb)
  replace H7 := Aside0.mk (Kd.C_below (Kd.C_alloc H7.out _) hb)
  replace H9 := Aside0.mk (Kd.C_below (Kd.C_alloc H9.out _) hb)
  have K9 := Aside0.mk (blk_below (blk_new w2 (.cells #[.slice A9 (AtS l o t).1.length c9, .int .i64 (AtS l o t).2] 40)) hb)
  clear hb
  have kK4 := blk_cell K4.out
  go_wp2_with fail
  refine (quietusref38_Where.calls kw A c l o t (WhereS l o t).1 (WhereS l o t).2 _ HL.out hc HW.out).mono ?_
  clear kK4
  rintro e w4 ⟨rfl, hb⟩
  replace HB := Aside0.mk (below_step HB.out hb)
  replace HL := Aside0.mk (Kd.C_below HL.out hb)
  replace HC := Aside0.mk (Kd.C_below HC.out hb)
  replace K4 := Aside0.mk (blk_below K4.out hb)
  replace K5 := Aside0.mk (blk_below K5.out hb)
  replace H7 := Aside0.mk (Kd.C_below H7.out hb)
  replace H9 := Aside0.mk (Kd.C_below H9.out hb)
  replace K9 := Aside0.mk (blk_below K9.out hb)
  clear hb
  have kK4 := blk_cell (blk_alloc K4.out (.cells #[.int .i64 (WhereS l o t).1, .int .i64 (WhereS l o t).2] 54))
  go_wp2_with fail
  refine (trail_calls A c l o _ (Kd.C_alloc HL.out _) hc (by omega) HOF.out).mono ?_
  clear kK4
  rintro e w5 ⟨rfl, hb⟩
  replace HB := Aside0.mk (below_step (below_alloc HB.out _) hb)
  replace HL := Aside0.mk (Kd.C_below (Kd.C_alloc HL.out _) hb)
  replace HC := Aside0.mk (Kd.C_below (Kd.C_alloc HC.out _) hb)
  replace K4 := Aside0.mk (blk_below (blk_alloc K4.out _) hb)
  replace K5 := Aside0.mk (blk_below (blk_alloc K5.out _) hb)
  replace H7 := Aside0.mk (Kd.C_below (Kd.C_alloc H7.out _) hb)
  replace H9 := Aside0.mk (Kd.C_below (Kd.C_alloc H9.out _) hb)
  replace K9 := Aside0.mk (blk_below (blk_alloc K9.out _) hb)
  have K12 := Aside0.mk (blk_below (blk_new w4 (.cells #[.int .i64 (WhereS l o t).1, .int .i64 (WhereS l o t).2] 54)) hb)
  clear hb
  have kK4 := blk_cell K4.out
  go_wp2_with fail
  refine (quietusref38_Trail.calls kt A c l o (TrailS l o).1 (TrailS l o).2 _ HL.out hc HT.out).mono ?_
  clear kK4
  rintro e w6 ⟨rfl, hb⟩
  replace HB := Aside0.mk (below_step HB.out hb)
  replace HL := Aside0.mk (Kd.C_below HL.out hb)
  replace HC := Aside0.mk (Kd.C_below HC.out hb)
  replace K4 := Aside0.mk (blk_below K4.out hb)
  replace K5 := Aside0.mk (blk_below K5.out hb)
  replace H7 := Aside0.mk (Kd.C_below H7.out hb)
  replace H9 := Aside0.mk (Kd.C_below H9.out hb)
  replace K9 := Aside0.mk (blk_below K9.out hb)
  replace K12 := Aside0.mk (blk_below K12.out hb)
  clear hb
  have kK4 := blk_cell (blk_alloc K4.out (.cells #[.int .i64 (TrailS l o).1, .int .i64 (TrailS l o).2] 54))
  go_wp2_with fail
  refine (late_calls A c l o t _ (Kd.C_alloc HL.out _) hc (by omega) HOF.out).mono ?_
  clear kK4
  rintro e w7 ⟨v, rfl, hR, hb⟩
  obtain ⟨A16, c16, rfl, h16, hC_⟩ := Kd.R_reads hR
  have H16 := Aside0.mk hC_
  replace HB := Aside0.mk (below_step (below_alloc HB.out _) hb)
  replace HL := Aside0.mk (Kd.C_below (Kd.C_alloc HL.out _) hb)
  replace HC := Aside0.mk (Kd.C_below (Kd.C_alloc HC.out _) hb)
  replace K4 := Aside0.mk (blk_below (blk_alloc K4.out _) hb)
  replace K5 := Aside0.mk (blk_below (blk_alloc K5.out _) hb)
  replace H7 := Aside0.mk (Kd.C_below (Kd.C_alloc H7.out _) hb)
  replace H9 := Aside0.mk (Kd.C_below (Kd.C_alloc H9.out _) hb)
  replace K9 := Aside0.mk (blk_below (blk_alloc K9.out _) hb)
  replace K12 := Aside0.mk (blk_below (blk_alloc K12.out _) hb)
  have K15 := Aside0.mk (blk_below (blk_new w6 (.cells #[.int .i64 (TrailS l o).1, .int .i64 (TrailS l o).2] 54)) hb)
  clear hb hR hC_
  have kK4 := blk_cell K4.out
  go_wp2_with fail
  refine (rlate_calls A c l o t _ HL.out hc (by omega) HOF.out).mono ?_
  clear kK4
  rintro e w8 ⟨v, rfl, hR, hb⟩
  obtain ⟨A18, c18, rfl, h18, hC_⟩ := Kd.R_reads hR
  have H18 := Aside0.mk hC_
  replace HB := Aside0.mk (below_step HB.out hb)
  replace HL := Aside0.mk (Kd.C_below HL.out hb)
  replace HC := Aside0.mk (Kd.C_below HC.out hb)
  replace K4 := Aside0.mk (blk_below K4.out hb)
  replace K5 := Aside0.mk (blk_below K5.out hb)
  replace H7 := Aside0.mk (Kd.C_below H7.out hb)
  replace H9 := Aside0.mk (Kd.C_below H9.out hb)
  replace K9 := Aside0.mk (blk_below K9.out hb)
  replace K12 := Aside0.mk (blk_below K12.out hb)
  replace K15 := Aside0.mk (blk_below K15.out hb)
  replace H16 := Aside0.mk (Kd.C_below H16.out hb)
  clear hb hR hC_
  have kK5 := blk_cell (blk_alloc K5.out (.cells #[.slice A18 (LateS l o t).1.length c18, .int .i64 (LateS l o t).2] 40))
  go_wp2_with fail
  refine (has_calls A c l bad Ac cc caps _ (Kd.C_alloc HL.out _) hc (by omega) HOF.out (Kd.C_alloc HC.out _)).mono ?_
  clear kK5
  rintro e w9 ⟨v, rfl, hR, hb⟩
  obtain ⟨A19, c19, rfl, h19, hC_⟩ := Kd.R_reads hR
  have H19 := Aside0.mk hC_
  replace HB := Aside0.mk (below_step (below_alloc HB.out _) hb)
  replace HL := Aside0.mk (Kd.C_below (Kd.C_alloc HL.out _) hb)
  replace HC := Aside0.mk (Kd.C_below (Kd.C_alloc HC.out _) hb)
  replace K4 := Aside0.mk (blk_below (blk_alloc K4.out _) hb)
  replace K5 := Aside0.mk (blk_below (blk_alloc K5.out _) hb)
  replace H7 := Aside0.mk (Kd.C_below (Kd.C_alloc H7.out _) hb)
  replace H9 := Aside0.mk (Kd.C_below (Kd.C_alloc H9.out _) hb)
  replace K9 := Aside0.mk (blk_below (blk_alloc K9.out _) hb)
  replace K12 := Aside0.mk (blk_below (blk_alloc K12.out _) hb)
  replace K15 := Aside0.mk (blk_below (blk_alloc K15.out _) hb)
  replace H16 := Aside0.mk (Kd.C_below (Kd.C_alloc H16.out _) hb)
  replace H18 := Aside0.mk (Kd.C_below (Kd.C_alloc H18.out _) hb)
  have K18 := Aside0.mk (blk_below (blk_new w8 (.cells #[.slice A18 (LateS l o t).1.length c18, .int .i64 (LateS l o t).2] 40)) hb)
  clear hb hR hC_
  have kK5 := blk_cell K5.out
  go_wp2_with fail
  refine (rhas_calls A c l bad Ac cc caps _ HL.out hc (by omega) HOF.out HC.out hcc).mono ?_
  clear kK5
  rintro e w10 ⟨v, rfl, hR, hb⟩
  obtain ⟨A21, c21, rfl, h21, hC_⟩ := Kd.R_reads hR
  have H21 := Aside0.mk hC_
  replace HB := Aside0.mk (below_step HB.out hb)
  replace HL := Aside0.mk (Kd.C_below HL.out hb)
  replace HC := Aside0.mk (Kd.C_below HC.out hb)
  replace K4 := Aside0.mk (blk_below K4.out hb)
  replace K5 := Aside0.mk (blk_below K5.out hb)
  replace H7 := Aside0.mk (Kd.C_below H7.out hb)
  replace H9 := Aside0.mk (Kd.C_below H9.out hb)
  replace K9 := Aside0.mk (blk_below K9.out hb)
  replace K12 := Aside0.mk (blk_below K12.out hb)
  replace K15 := Aside0.mk (blk_below K15.out hb)
  replace H16 := Aside0.mk (Kd.C_below H16.out hb)
  replace H18 := Aside0.mk (Kd.C_below H18.out hb)
  replace K18 := Aside0.mk (blk_below K18.out hb)
  replace H19 := Aside0.mk (Kd.C_below H19.out hb)
  clear hb hR hC_
  have kK4 := blk_cell (blk_alloc K4.out (.cells #[.slice A21 (HasS l bad caps).1.length c21, .int .i64 (HasS l bad caps).2] 40))
  have kK5 := blk_cell (blk_alloc K5.out (.cells #[.slice A21 (HasS l bad caps).1.length c21, .int .i64 (HasS l bad caps).2] 40))
  go_wp2_with fail
  refine (told_any A c l o need bad Ac cc caps _ (Kd.C_alloc HL.out _) hc (by omega) HOF.out (Kd.C_alloc HC.out _)).mono ?_
  clear kK4 kK5
  rintro e w11 ⟨rfl, hb⟩
  replace HB := Aside0.mk (below_step (below_alloc HB.out _) hb)
  replace HL := Aside0.mk (Kd.C_below (Kd.C_alloc HL.out _) hb)
  replace HC := Aside0.mk (Kd.C_below (Kd.C_alloc HC.out _) hb)
  replace K4 := Aside0.mk (blk_below (blk_alloc K4.out _) hb)
  replace K5 := Aside0.mk (blk_below (blk_alloc K5.out _) hb)
  replace H7 := Aside0.mk (Kd.C_below (Kd.C_alloc H7.out _) hb)
  replace H9 := Aside0.mk (Kd.C_below (Kd.C_alloc H9.out _) hb)
  replace K9 := Aside0.mk (blk_below (blk_alloc K9.out _) hb)
  replace K12 := Aside0.mk (blk_below (blk_alloc K12.out _) hb)
  replace K15 := Aside0.mk (blk_below (blk_alloc K15.out _) hb)
  replace H16 := Aside0.mk (Kd.C_below (Kd.C_alloc H16.out _) hb)
  replace H18 := Aside0.mk (Kd.C_below (Kd.C_alloc H18.out _) hb)
  replace K18 := Aside0.mk (blk_below (blk_alloc K18.out _) hb)
  replace H19 := Aside0.mk (Kd.C_below (Kd.C_alloc H19.out _) hb)
  replace H21 := Aside0.mk (Kd.C_below (Kd.C_alloc H21.out _) hb)
  have K21 := Aside0.mk (blk_below (blk_new w10 (.cells #[.slice A21 (HasS l bad caps).1.length c21, .int .i64 (HasS l bad caps).2] 40)) hb)
  clear hb
  have kK4 := blk_cell K4.out
  have kK5 := blk_cell K5.out
  go_wp2_with fail
  refine (rtold_calls A c l o need bad Ac cc caps _ HL.out hc (by omega) HOF.out HC.out hcc).mono ?_
  clear kK4 kK5
  rintro e w12 ⟨rfl, hb⟩
  replace HB := Aside0.mk (below_step HB.out hb)
  replace HL := Aside0.mk (Kd.C_below HL.out hb)
  replace HC := Aside0.mk (Kd.C_below HC.out hb)
  replace K4 := Aside0.mk (blk_below K4.out hb)
  replace K5 := Aside0.mk (blk_below K5.out hb)
  replace H7 := Aside0.mk (Kd.C_below H7.out hb)
  replace H9 := Aside0.mk (Kd.C_below H9.out hb)
  replace K9 := Aside0.mk (blk_below K9.out hb)
  replace K12 := Aside0.mk (blk_below K12.out hb)
  replace K15 := Aside0.mk (blk_below K15.out hb)
  replace H16 := Aside0.mk (Kd.C_below H16.out hb)
  replace H18 := Aside0.mk (Kd.C_below H18.out hb)
  replace K18 := Aside0.mk (blk_below K18.out hb)
  replace H19 := Aside0.mk (Kd.C_below H19.out hb)
  replace H21 := Aside0.mk (Kd.C_below H21.out hb)
  replace K21 := Aside0.mk (blk_below K21.out hb)
  clear hb
  clear HA HW HT HOF
  clear HL HC K4 K5
  generalize AtS l o t = pA at *
  generalize WhereS l o t = pW at *
  generalize TrailS l o = pT at *
  generalize LateS l o t = pL at *
  generalize HasS l bad caps = pH at *
  generalize ToldS l o need bad caps = pD at *
  have K24 := Aside0.mk (blk_new w12 (.cells #[.bool pD.1, .int .i64 pD.2] 63))
  have HBn := Aside0.mk (below_alloc HB.out (.cells #[.bool pD.1, .int .i64 pD.2] 63))
  replace H7 := Aside0.mk (Kd.C_alloc H7.out (.cells #[.bool pD.1, .int .i64 pD.2] 63))
  replace H9 := Aside0.mk (Kd.C_alloc H9.out (.cells #[.bool pD.1, .int .i64 pD.2] 63))
  replace K9 := Aside0.mk (blk_alloc K9.out (.cells #[.bool pD.1, .int .i64 pD.2] 63))
  replace K12 := Aside0.mk (blk_alloc K12.out (.cells #[.bool pD.1, .int .i64 pD.2] 63))
  replace K15 := Aside0.mk (blk_alloc K15.out (.cells #[.bool pD.1, .int .i64 pD.2] 63))
  replace H16 := Aside0.mk (Kd.C_alloc H16.out (.cells #[.bool pD.1, .int .i64 pD.2] 63))
  replace H18 := Aside0.mk (Kd.C_alloc H18.out (.cells #[.bool pD.1, .int .i64 pD.2] 63))
  replace K18 := Aside0.mk (blk_alloc K18.out (.cells #[.bool pD.1, .int .i64 pD.2] 63))
  replace H19 := Aside0.mk (Kd.C_alloc H19.out (.cells #[.bool pD.1, .int .i64 pD.2] 63))
  replace H21 := Aside0.mk (Kd.C_alloc H21.out (.cells #[.bool pD.1, .int .i64 pD.2] 63))
  replace K21 := Aside0.mk (blk_alloc K21.out (.cells #[.bool pD.1, .int .i64 pD.2] 63))
  replace HB := HBn
  clear HBn
  have kK9 := blk_cell K9.out 1
  have kK12 := blk_cell K12.out 1
  have kK15 := blk_cell K15.out 1
  have kK18 := blk_cell K18.out 1
  have kK21 := blk_cell K21.out 1
  have kK24 := blk_cell K24.out 1
  go_wp2_with fail
  refine (sanity_calls _).mono ?_
  clear kK9 kK12 kK15 kK18 kK21 kK24
  rintro e wb ⟨rfl, hb⟩
  replace HB := Aside0.mk (below_step HB.out hb)
  replace H7 := Aside0.mk (Kd.C_below H7.out hb)
  replace H9 := Aside0.mk (Kd.C_below H9.out hb)
  replace K9 := Aside0.mk (blk_below K9.out hb)
  replace K12 := Aside0.mk (blk_below K12.out hb)
  replace K15 := Aside0.mk (blk_below K15.out hb)
  replace H16 := Aside0.mk (Kd.C_below H16.out hb)
  replace H18 := Aside0.mk (Kd.C_below H18.out hb)
  replace K18 := Aside0.mk (blk_below K18.out hb)
  replace H19 := Aside0.mk (Kd.C_below H19.out hb)
  replace H21 := Aside0.mk (Kd.C_below H21.out hb)
  replace K21 := Aside0.mk (blk_below K21.out hb)
  replace K24 := Aside0.mk (blk_below K24.out hb)
  clear hb
  obtain ⟨ks1, hs1⟩ := (sameList_r pA.1 (by omega)).rounds
  obtain ⟨ks2, hs2⟩ := (sameList_r pL.1 (by omega)).rounds
  obtain ⟨ks3, hs3⟩ := (sameList_r pH.1 (by omega)).rounds
  have HS1 := Aside0.mk hs1
  have HS2 := Aside0.mk hs2
  have HS3 := Aside0.mk hs3
  clear hs1 hs2 hs3
  have kK9 := blk_cell K9.out 0
  go_wp2_with fail
  refine (quietusref38_SameList.calls ks1 A7 c7 pA.1 A9 c9 pA.1 true _ H7.out h7 H9.out h9 HS1.out).mono ?_
  clear kK9
  rintro e wd7 ⟨rfl, hb⟩
  replace hb := hb.below
  replace HB := Aside0.mk (below_step HB.out hb)
  replace H7 := Aside0.mk (Kd.C_below H7.out hb)
  replace H9 := Aside0.mk (Kd.C_below H9.out hb)
  replace K9 := Aside0.mk (blk_below K9.out hb)
  replace K12 := Aside0.mk (blk_below K12.out hb)
  replace K15 := Aside0.mk (blk_below K15.out hb)
  replace H16 := Aside0.mk (Kd.C_below H16.out hb)
  replace H18 := Aside0.mk (Kd.C_below H18.out hb)
  replace K18 := Aside0.mk (blk_below K18.out hb)
  replace H19 := Aside0.mk (Kd.C_below H19.out hb)
  replace H21 := Aside0.mk (Kd.C_below H21.out hb)
  replace K21 := Aside0.mk (blk_below K21.out hb)
  replace K24 := Aside0.mk (blk_below K24.out hb)
  clear hb
  have kK12 := blk_cell K12.out 0
  have kK15 := blk_cell K15.out 0
  have kK18 := blk_cell K18.out 0
  go_wp2_with fail
  refine (quietusref38_SameList.calls ks2 A16 c16 pL.1 A18 c18 pL.1 true _ H16.out h16 H18.out h18 HS2.out).mono ?_
  clear kK12 kK15 kK18
  rintro e wd16 ⟨rfl, hb⟩
  replace hb := hb.below
  replace HB := Aside0.mk (below_step HB.out hb)
  replace H7 := Aside0.mk (Kd.C_below H7.out hb)
  replace H9 := Aside0.mk (Kd.C_below H9.out hb)
  replace K9 := Aside0.mk (blk_below K9.out hb)
  replace K12 := Aside0.mk (blk_below K12.out hb)
  replace K15 := Aside0.mk (blk_below K15.out hb)
  replace H16 := Aside0.mk (Kd.C_below H16.out hb)
  replace H18 := Aside0.mk (Kd.C_below H18.out hb)
  replace K18 := Aside0.mk (blk_below K18.out hb)
  replace H19 := Aside0.mk (Kd.C_below H19.out hb)
  replace H21 := Aside0.mk (Kd.C_below H21.out hb)
  replace K21 := Aside0.mk (blk_below K21.out hb)
  replace K24 := Aside0.mk (blk_below K24.out hb)
  clear hb
  have kK21 := blk_cell K21.out 0
  go_wp2_with fail
  refine (quietusref38_SameList.calls ks3 A19 c19 pH.1 A21 c21 pH.1 true _ H19.out h19 H21.out h21 HS3.out).mono ?_
  clear kK21
  rintro e wd19 ⟨rfl, hb⟩
  replace hb := hb.below
  replace HB := Aside0.mk (below_step HB.out hb)
  replace H7 := Aside0.mk (Kd.C_below H7.out hb)
  replace H9 := Aside0.mk (Kd.C_below H9.out hb)
  replace K9 := Aside0.mk (blk_below K9.out hb)
  replace K12 := Aside0.mk (blk_below K12.out hb)
  replace K15 := Aside0.mk (blk_below K15.out hb)
  replace H16 := Aside0.mk (Kd.C_below H16.out hb)
  replace H18 := Aside0.mk (Kd.C_below H18.out hb)
  replace K18 := Aside0.mk (blk_below K18.out hb)
  replace H19 := Aside0.mk (Kd.C_below H19.out hb)
  replace H21 := Aside0.mk (Kd.C_below H21.out hb)
  replace K21 := Aside0.mk (blk_below K21.out hb)
  replace K24 := Aside0.mk (blk_below K24.out hb)
  clear hb
  have kK24 := blk_cell K24.out 0
  go_wp2
  go_ret
  exact ⟨rfl, HB.out⟩
end Go.Proofs.Ytlelhmephibfjaa.T
