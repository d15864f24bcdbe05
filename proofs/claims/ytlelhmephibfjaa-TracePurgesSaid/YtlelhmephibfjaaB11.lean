/- Texts of this claim, laid together: L6. -/
import Derived.Test.YtlelhmephibfjaaB10
import Derived.Test.YtlelhmephibfjaaB2

namespace Go.Proofs.Ytlelhmephibfjaa.T
set_option linter.unusedVariables false
set_option linter.unusedSimpArgs false
open Go.RowKit Go.Proofs.YtlelhmephibfjaaW.PrintWords Go.Proofs.YtlelhmephibfjaaW.PrintLast Go.Proofs.YtlelhmephibfjaaW.PrintMore

set_option maxRecDepth 100000 in
set_option maxHeartbeats 8000000 in
theorem law6_walk (A : Option Addr) (c : Nat) (l : List S25) (o tick later n3 : Int) (Ac : Option Addr) (cc : Nat) (caps : List S71) (w : World) (hr : Kd.C k25 w A l.length l) (hc : l.length ≤ c) (hcap : Kd.C k71 w Ac caps.length caps) (hcc : caps.length ≤ cc) :
    Calls Try.prog 6 #[.slice A l.length c, .agg #[.int .i64 o, .int .i64 tick, .int .i64 later, .int .i64 n3], .slice Ac caps.length cc] w fun e w' => e = .returned (.bool true) ∧ Below w.heap.size w w' := by
  have hu25 := Try.underlying25
  have hu69 := Try.underlying69
  have HL := Aside0.mk hr
  have HC := Aside0.mk hcap
  clear hr hcap
  go_enter Try.func6, Try.ntmps6
  go_wp2_with fail
  have K4 := Aside0.mk (blk_new w (.cells #[.int .i64 o, .int .i64 tick, .int .i64 later, .int .i64 n3] 69))
  have k4 := blk_cell K4.out
  go_quiet (fail)
  go_wp2_with fail
  obtain ⟨kf, fr, hf, hfew⟩ := few_t l 30
  refine (quietusref38_Few.calls kf A c l 30 fr _ (Kd.C_drewN (Kd.C_alloc HL.out _) _) hc hf).mono ?_
  rintro e w1 ⟨rfl, hb⟩
  have HB := Aside0.mk (below_step (pw_below_drewN (below_alloc (Below.refl w.heap.size w) _) _) hb.below)
  replace K4 := Aside0.mk (blk_below (blk_drewN K4.out _) hb.below)
  replace HL := Aside0.mk (Kd.C_below HL.out HB.out)
  replace HC := Aside0.mk (Kd.C_below HC.out HB.out)
  clear hb k4 hf kf
  cases fr with
  | false =>
    go_wp2_with fail
    refine (sanity_calls _).mono ?_
    rintro e ws ⟨rfl, hbs⟩
    have HBS := Aside0.mk (below_step (by repeat (first | with_reducible exact HB.out | with_reducible refine below_alloc ?_ _ | with_reducible refine below_drew ?_ | with_reducible refine pw_below_drewN ?_ _)) hbs)
    clear hbs
    go_wp2
    go_ret
    exact ⟨rfl, HBS.out⟩
  | true =>
  obtain ⟨hl, hof20⟩ := hfew rfl
  have hof : ∀ x ∈ l, x.f3.length ≤ 1000 := fun x hx => Nat.le_trans (hof20 x hx) (by decide)
  have HOF := Aside0.mk hof
  clear hfew hof20
  obtain ⟨kc, hkc⟩ := (check_r l (by omega) hof).rounds
  have HK := Aside0.mk hkc
  clear hof hkc
  go_wp2_with fail
  refine (quietusref38_Check.calls kc A c l _ w1 HL.out hc HK.out).mono ?_
  rintro e w2 ⟨rfl, hb⟩
  replace HB := Aside0.mk (below_step HB.out hb)
  replace K4 := Aside0.mk (blk_below K4.out hb)
  replace HL := Aside0.mk (Kd.C_below HL.out hb)
  replace HC := Aside0.mk (Kd.C_below HC.out hb)
  clear hb HK
  by_cases hk0 : checkS l = 0
  case neg =>
    have g0 : (checkS l != 0) = true := by simpa using hk0
    generalize checkS l = q at *
    clear hk0
    go_wp2_with fail
    refine (sanity_calls _).mono ?_
    rintro e ws ⟨rfl, hbs⟩
    have HBS := Aside0.mk (below_step (by repeat (first | with_reducible exact HB.out | with_reducible refine below_alloc ?_ _ | with_reducible refine below_drew ?_ | with_reducible refine pw_below_drewN ?_ _)) hbs)
    clear hbs
    go_wp2
    go_ret
    exact ⟨rfl, HBS.out⟩
  rw [hk0]
  have HK0 := Aside0.mk hk0
  clear hk0
  by_cases hcl : caps.length ≤ 20
  case neg =>
    have g0 : decide ((20 : Int) < caps.length) = true := by simp; omega
    clear hcl
    go_wp2_with fail
    refine (sanity_calls _).mono ?_
    rintro e ws ⟨rfl, hbs⟩
    have HBS := Aside0.mk (below_step (by repeat (first | with_reducible exact HB.out | with_reducible refine below_alloc ?_ _ | with_reducible refine below_drew ?_ | with_reducible refine pw_below_drewN ?_ _)) hbs)
    clear hbs
    go_wp2
    go_ret
    exact ⟨rfl, HBS.out⟩
  have g0 : decide ((20 : Int) < caps.length) = false := by simp; omega
  go_wp2_with fail
  clear g0
  refine (purge_calls _ A c l o tick w2 (Kd.V_mk hc (Kd.C_F k25_heap HL.out)) (by omega) HOF.out).mono ?_
  rintro e w3 ⟨v, rfl, hN, hb⟩
  obtain ⟨AP, cP, rfl, hcP, hC⟩ := Kd.N_reads hN
  replace HB := Aside0.mk (below_step HB.out hb)
  replace K4 := Aside0.mk (blk_below K4.out hb)
  replace HL := Aside0.mk (Kd.C_below HL.out hb)
  replace HC := Aside0.mk (Kd.C_below HC.out hb)
  have HP := Aside0.mk hC
  clear hb hN hC
  by_cases hp0 : (PurgeS l o tick).2 = 0
  case neg =>
    have e1 := purge_none hp0
    rw [e1]
    clear HP hcP
    have g0 : ((PurgeS l o tick).2 != 0) = true := by simpa using hp0
    generalize (PurgeS l o tick).2 = q at *
    clear hp0 e1
    go_wp2_with fail
    refine (sanity_calls _).mono ?_
    rintro e ws ⟨rfl, hbs⟩
    have HBS := Aside0.mk (below_step (by repeat (first | with_reducible exact HB.out | with_reducible refine below_alloc ?_ _ | with_reducible refine below_drew ?_ | with_reducible refine pw_below_drewN ?_ _)) hbs)
    clear hbs
    go_wp2
    go_ret
    exact ⟨rfl, HBS.out⟩
  rw [hp0]
  have F1 := purge_late hp0
  have F2 := fun b hb h2 h1 (h : tick ≤ later) => purge_at (b := b) hp0 h hb h2 h1
  have F3 := fun h => purge_told (need := n3) (caps := caps) hp0 h
  obtain ⟨F4, -, -, F5⟩ := purge_is hp0
  have F6 : (PurgeS l o tick).1.length = l.length := by rw [F4, List.length_map]
  have F7 : ∀ (j : Nat) (h : j < (PurgeS l o tick).1.length) (h' : j < l.length), (PurgeS l o tick).1[j].f2 ≠ o → (PurgeS l o tick).1[j].f7 = l[j].f7 := by
    intro j h h' hne
    simp only [F4, List.getElem_map] at hne ⊢
    rw [purge1_f2] at hne
    rw [purge1_away hne]
  have F8 : ∀ x ∈ (PurgeS l o tick).1, x.f3.length ≤ 1000 := by
    intro x hx
    rw [F4] at hx
    obtain ⟨a, ha, rfl⟩ := List.mem_map.1 hx
    rw [purge1_f3]; exact HOF.out a ha
  rw [← F4] at F5
  clear F4 hp0
  generalize (PurgeS l o tick).1 = p at *
  replace F1 := Aside0.mk F1
  replace F2 := Aside0.mk F2
  replace F3 := Aside0.mk F3
  replace F5 := Aside0.mk F5
  replace F7 := Aside0.mk F7
  replace F8 := Aside0.mk F8
  have hpl : p.length ≤ 410 := by omega
  replace F6 := Aside0.mk F6
  clear HOF HK0
  go_wp2_with fail
  refine (late_calls AP cP p o tick w3 HP.out hcP (by omega) F8.out).mono ?_
  rintro e w4 ⟨v, rfl, hR, hb⟩
  rw [F1.out] at hR
  rw [F1.out]
  obtain ⟨A12, c12, rfl, -, -⟩ := Kd.R_reads hR
  replace HB := Aside0.mk (below_step HB.out hb)
  replace K4 := Aside0.mk (blk_below K4.out hb)
  replace HL := Aside0.mk (Kd.C_below HL.out hb)
  replace HC := Aside0.mk (Kd.C_below HC.out hb)
  replace HP := Aside0.mk (Kd.C_below HP.out hb)
  clear hb hR F1
  obtain ⟨kc, hkc⟩ := (check_r p (by omega) F8.out).rounds
  rw [F5.out] at hkc
  have HK := Aside0.mk hkc
  have g0 : ((p.length : Int) != (l.length : Int)) = false := by rw [F6.out]; simp
  clear hkc F5
  go_wp2_with fail
  clear g0
  refine (quietusref38_Check.calls kc AP cP p 0 w4 HP.out hcP HK.out).mono ?_
  rintro e w5 ⟨rfl, hb⟩
  replace HB := Aside0.mk (below_step HB.out hb)
  replace K4 := Aside0.mk (blk_below K4.out hb)
  replace HL := Aside0.mk (Kd.C_below HL.out hb)
  replace HC := Aside0.mk (Kd.C_below HC.out hb)
  replace HP := Aside0.mk (Kd.C_below HP.out hb)
  clear hb HK kc
  go_wp2_with fail
  refine (at_calls AP cP p o later w5 HP.out hcP (by omega) F8.out).mono ?_
  rintro e w6 ⟨v, rfl, hR, hb⟩
  obtain ⟨A14, c14, rfl, h14, hC⟩ := Kd.R_reads hR
  have HAT := Aside0.mk hC
  replace HB := Aside0.mk (below_step HB.out hb)
  replace K4 := Aside0.mk (blk_below K4.out hb)
  replace HL := Aside0.mk (Kd.C_below HL.out hb)
  replace HC := Aside0.mk (Kd.C_below HC.out hb)
  replace HP := Aside0.mk (Kd.C_below HP.out hb)
  clear hb hR hC
  have hatl : (AtS p o later).1.length ≤ 1000 := by
    unfold AtS
    split
    · simp
    · simp only [List.length_map]
      refine Nat.le_trans (List.length_filter_le _ _) ?_
      unfold ofS
      refine Nat.le_trans (List.length_filter_le _ _) (by omega)
  generalize (AtS p o later).1 = ats at *
  generalize (AtS p o later).2 = ate at *
  go_wp2
  go_loopw [92] (fun v wr => ∃ j : Nat, v = .int .i64 j ∧ j ≤ p.length ∧ Aside0 (Below w6.heap.size w6 wr)) (fun v _ => p.length - (intOf v).toNat)
  case atStart => exact ⟨0, rfl, by omega, ⟨Below.refl _ _⟩⟩
  case round =>
    obtain ⟨j, rfl, hj, HB2⟩ := hrel
    by_cases hlt : j < p.length
    · obtain ⟨ad, A3, c3, e1, x0, x1, x2, x3, x4, x5, x6, x7, x8, x9, hl3, hi3⟩ := at_T25 (Kd.C_below HP.out HB2.out) (j : Int) (by omega) (by omega)
      subst e1
      have hjl : j < l.length := by rw [← F6.out]; exact hlt
      obtain ⟨ad', B3, d3, e2, -, -, -, -, -, -, -, y7, -, -, -, -⟩ := at_T25 (Kd.C_below HL.out HB2.out) (j : Int) (by omega) (by omega)
      subst e2
      rw [rd25_get p j hlt, Int.toNat_natCast] at x0 x1 x2 x3 x4 x5 x6 x7 x8 x9
      rw [rd25_get l j hjl, Int.toNat_natCast] at y7
      have G7 := F7.out j hlt hjl
      have G2 := F2.out p[j] (List.getElem_mem hlt)
      clear hl3 hi3
      generalize p[j] = a at *
      generalize l[j].f7 = lg at *
      replace G7 := Aside0.mk G7
      replace G2 := Aside0.mk G2
      have y7a := keep_alloc (o := .cells #[.int .i64 a.f0, .int .i64 a.f1, .int .i64 a.f2, .slice A3 a.f3.length c3, .int .i64 a.f4, .int .i64 a.f5, .int .i64 a.f6, .int .i64 a.f7, .int .i64 a.f8, .int .i64 a.f9] 25) y7
      go_wp2_with fail
      clear x0 x1 x2 x3 x4 x5 x6 x7 x8 x9 y7
      have k17 := blk_cell (blk_new wr (.cells #[.int .i64 a.f0, .int .i64 a.f1, .int .i64 a.f2, .slice A3 a.f3.length c3, .int .i64 a.f4, .int .i64 a.f5, .int .i64 a.f6, .int .i64 a.f7, .int .i64 a.f8, .int .i64 a.f9] 25))
      by_cases h2 : a.f2 = o
      · have g2 : (a.f2 != o) = false := by simpa using h2
        have g2' : (a.f2 == o) = true := by simpa using h2
        clear y7a
        by_cases he : ate = 0
        · have ge : (ate == 0) = true := by simpa using he
          by_cases ht : tick ≤ later
          · have gt : decide (tick ≤ later) = true := decide_eq_true ht
            by_cases h4 : a.f1 = 4
            · have g4 : (a.f1 != 4) = false := by simpa using h4
              replace h2 := Aside0.mk h2
              replace h4 := Aside0.mk h4
              replace he := Aside0.mk he
              go_quiet (fail)
              go_wp2
              go_roundw
              case rel => exact ⟨j + 1, by go_num, by omega, ⟨by repeat (first | with_reducible exact HB2.out | with_reducible refine below_alloc ?_ _ | with_reducible refine below_drew ?_ | with_reducible refine pw_below_drewN ?_ _)⟩⟩
              case measure => simp [intOf]; omega
            · have g4 : (a.f1 != 4) = true := by simpa using h4
              have hn := G2.out h2 h4 ht
              obtain ⟨kh, hkh⟩ := (holds_l ats a.f0 (by omega)).rounds
              rw [decide_eq_false hn] at hkh
              have HQ : ∀ W : World, Below w6.heap.size w6 W → Calls Try.prog 37 #[.slice A14 ats.length c14, .int .i64 a.f0] W fun e w' => e = .returned (.bool false) ∧ ∃ m, w' = W.drewN m := fun W hW => (quietuslaw38_holds.calls kh A14 c14 ats a.f0 false W (Kd.C_below HAT.out hW) h14 hkh).mono fun e w' ⟨h1, h2⟩ => ⟨h1, h2.out⟩
              replace HQ := Aside0.mk HQ
              replace h2 := Aside0.mk h2
              replace h4 := Aside0.mk h4
              replace he := Aside0.mk he
              clear hn hkh
              go_quiet ((go_at_call 37; exact Calls.quiet_of (HQ.out _ (by repeat (first | with_reducible exact HB2.out | with_reducible refine below_alloc ?_ _ | with_reducible refine below_drew ?_ | with_reducible refine pw_below_drewN ?_ _)))))
              go_wp2
              go_roundw
              case rel => exact ⟨j + 1, by go_num, by omega, ⟨by repeat (first | with_reducible exact HB2.out | with_reducible refine below_alloc ?_ _ | with_reducible refine below_drew ?_ | with_reducible refine pw_below_drewN ?_ _)⟩⟩
              case measure => simp [intOf]; omega
          · have gt : decide (tick ≤ later) = false := decide_eq_false ht
            replace h2 := Aside0.mk h2
            replace he := Aside0.mk he
            go_quiet (fail)
            go_wp2
            go_roundw
            case rel => exact ⟨j + 1, by go_num, by omega, ⟨by repeat (first | with_reducible exact HB2.out | with_reducible refine below_alloc ?_ _ | with_reducible refine below_drew ?_ | with_reducible refine pw_below_drewN ?_ _)⟩⟩
            case measure => simp [intOf]; omega
        · have ge : (ate == 0) = false := by simpa using he
          replace h2 := Aside0.mk h2
          replace he := Aside0.mk he
          go_quiet (fail)
          go_wp2
          go_roundw
          case rel => exact ⟨j + 1, by go_num, by omega, ⟨by repeat (first | with_reducible exact HB2.out | with_reducible refine below_alloc ?_ _ | with_reducible refine below_drew ?_ | with_reducible refine pw_below_drewN ?_ _)⟩⟩
          case measure => simp [intOf]; omega
      · have g2 : (a.f2 != o) = true := by simpa using h2
        have g2' : (a.f2 == o) = false := by simpa using h2
        have g7 : (a.f7 != lg) = false := by simpa using G7.out h2
        replace h2 := Aside0.mk h2
        go_quiet (fail)
        go_wp2
        go_roundw
        case rel => exact ⟨j + 1, by go_num, by omega, ⟨by repeat (first | with_reducible exact HB2.out | with_reducible refine below_alloc ?_ _ | with_reducible refine below_drew ?_ | with_reducible refine pw_below_drewN ?_ _)⟩⟩
        case measure => simp [intOf]; omega
    · have hj2 : j = p.length := by omega
      subst hj2
      go_wp2
      go_loopw [140] (fun v wr2 => ∃ j : Nat, v = .int .i64 j ∧ j ≤ caps.length ∧ Aside0 (∀ x ∈ caps.take j, tick ≤ x.f1) ∧ Aside0 (Below w6.heap.size w6 wr2)) (fun v _ => caps.length - (intOf v).toNat)
      case atStart => exact ⟨0, rfl, by omega, ⟨by simp⟩, HB2⟩
      case round =>
        obtain ⟨j, rfl, hj, HT, HB3⟩ := hrel
        by_cases hlt : j < caps.length
        · obtain ⟨ad, e1, x0, x1⟩ := at_T71 (Kd.C_below HC.out HB3.out) (j : Int) (by omega) (by omega)
          subst e1
          have hrd : rd_T71 caps (j : Int) = caps[j] := by simp [rd_T71, List.getD_eq_getElem?_getD, List.getElem?_eq_getElem hlt]
          rw [hrd, Int.toNat_natCast] at x0 x1
          have ht : caps.take (j + 1) = caps.take j ++ [caps[j]] := by rw [List.take_succ_eq_append_getElem hlt]
          have HT2 : tick ≤ caps[j].f1 → ∀ x ∈ caps.take (j + 1), tick ≤ x.f1 := by
            intro h x hx
            rw [ht] at hx
            rcases List.mem_append.1 hx with h1 | h1
            · exact HT.out x h1
            · rw [List.mem_singleton.1 h1]; exact h
          clear hrd ht
          generalize caps[j] = x at *
          replace HT2 := Aside0.mk HT2
          by_cases hx : x.f1 < tick
          · have gx : decide (x.f1 < tick) = true := decide_eq_true hx
            have HB4 := Aside0.mk (below_step HB.out HB3.out)
            clear hx HT HT2 HB
            have HB := HB4
            clear HB4
            go_wp2_with fail
            refine (sanity_calls _).mono ?_
            rintro e ws ⟨rfl, hbs⟩
            have HBS : Aside0 (Below w.heap.size w ws) := ⟨below_step (below_alloc HB.out _) hbs⟩
            clear hbs
            go_wp2
            go_ret
            exact ⟨rfl, HBS.out⟩
          · have gx : decide (x.f1 < tick) = false := decide_eq_false hx
            have HT := Aside0.mk (HT2.out (by omega))
            clear hx HT2
            go_wp2
            go_roundw
            case rel => exact ⟨j + 1, by go_num, by omega, HT, ⟨by repeat (first | with_reducible exact HB3.out | with_reducible refine below_alloc ?_ _ | with_reducible refine below_drew ?_ | with_reducible refine pw_below_drewN ?_ _)⟩⟩
            case measure => simp [intOf]; omega
        · have hj2 : j = caps.length := by omega
          subst hj2
          have hall : ∀ x ∈ caps, tick ≤ x.f1 := by simpa using HT.out
          have FT := Aside0.mk (F3.out hall)
          have k4 := blk_cell (blk_below K4.out HB3.out)
          clear hall HT F3 F2 F7
          go_wp2_with fail
          clear k4
          refine (told_calls AP cP p o n3 0 Ac cc caps _ (Kd.C_below HP.out HB3.out) hcP (by omega) F8.out (Kd.C_below HC.out HB3.out) (by omega)).mono ?_
          rintro e w7 ⟨rfl, hb⟩
          rw [FT.out]
          generalize (ToldS p o n3 0 caps).2 = te at *
          have HB := Aside0.mk (below_step (below_step HB.out HB3.out) hb)
          clear hb
          go_wp2_with fail
          refine (sanity_calls _).mono ?_
          rintro e ws ⟨rfl, hbs⟩
          have HBS := Aside0.mk (below_step HB.out hbs)
          clear hbs
          by_cases ht : te = 0
          · have gt : (te != 0) = false := by simpa using ht
            replace ht := Aside0.mk ht
            go_wp2
            go_ret
            exact ⟨rfl, HBS.out⟩
          · have gt : (te != 0) = true := by simpa using ht
            replace ht := Aside0.mk ht
            go_wp2
            go_ret
            exact ⟨rfl, HBS.out⟩
end Go.Proofs.Ytlelhmephibfjaa.T
