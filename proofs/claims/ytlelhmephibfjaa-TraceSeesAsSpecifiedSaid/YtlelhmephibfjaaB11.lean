/- Texts of this claim, laid together: M3. -/
import Derived.Test.YtlelhmephibfjaaB10
import Derived.Test.YtlelhmephibfjaaB9
import Derived.StillTailTactics

namespace Go.Proofs.Ytlelhmephibfjaa.T
set_option linter.unusedVariables false
set_option linter.unusedSimpArgs false
open Go.RowKit Go.Proofs.YtlelhmephibfjaaW.PrintWords Go.Proofs.YtlelhmephibfjaaW.PrintLast Go.Proofs.YtlelhmephibfjaaW.PrintMore

/-- what the second loop comes to from round j on -/
def tl1 (xs : List S25) (o need : Int) (j : Nat) (c e : Bool) : Bool :=
  if (xs.drop j).any (fun a => decide (a.f1 = 1)) = true then true else (c || (xs.drop j).any (fun a => decide (a.f1 = 2))) && (e || (xs.drop j).any (enoughB xs o need))
theorem tl1_end (xs : List S25) (o need : Int) (c e : Bool) : tl1 xs o need xs.length c e = (c && e) := by
  unfold tl1; rw [List.drop_length]; simp
theorem tl1_1 {xs : List S25} {o need : Int} {j : Nat} {c e : Bool} (h : j < xs.length) (h1 : xs[j].f1 = 1) : tl1 xs o need j c e = true := by
  have d1 : decide (xs[j].f1 = 1) = true := decide_eq_true h1
  unfold tl1; rw [List.drop_eq_getElem_cons h]
  simp only [List.any_cons, d1, Bool.true_or, if_true]
theorem tl1_2 {xs : List S25} {o need : Int} {j : Nat} {c e : Bool} (h : j < xs.length) (h1 : xs[j].f1 = 2) : tl1 xs o need j c e = tl1 xs o need (j + 1) true e := by
  have e1 : enoughB xs o need xs[j] = false := by unfold enoughB; simp [h1]
  have d1 : decide (xs[j].f1 = 1) = false := by rw [h1]; rfl
  have d2 : decide (xs[j].f1 = 2) = true := by rw [h1]; rfl
  unfold tl1; rw [List.drop_eq_getElem_cons h]
  simp only [List.any_cons, d1, d2, e1, Bool.true_or, Bool.or_true, Bool.false_or]
theorem tl1_3 {xs : List S25} {o need : Int} {j : Nat} {c e : Bool} (h : j < xs.length) (h1 : xs[j].f1 = 3) : tl1 xs o need j c e = tl1 xs o need (j + 1) c (e || decide (need ≤ ((xs.foldl (hstep o xs[j].f9) []).length : Int))) := by
  have e1 : enoughB xs o need xs[j] = decide (need ≤ ((xs.foldl (hstep o xs[j].f9) []).length : Int)) := by unfold enoughB; simp [h1]
  have d1 : decide (xs[j].f1 = 1) = false := by rw [h1]; rfl
  have d2 : decide (xs[j].f1 = 2) = false := by rw [h1]; rfl
  unfold tl1; rw [List.drop_eq_getElem_cons h]
  simp only [List.any_cons, d1, d2, e1, Bool.false_or, Bool.or_assoc]
theorem tl1_0 {xs : List S25} {o need : Int} {j : Nat} {c e : Bool} (h : j < xs.length) (h1 : xs[j].f1 ≠ 1) (h2 : xs[j].f1 ≠ 2) (h3 : xs[j].f1 ≠ 3) : tl1 xs o need j c e = tl1 xs o need (j + 1) c e := by
  have e1 : enoughB xs o need xs[j] = false := by unfold enoughB; simp [h3]
  have d1 : decide (xs[j].f1 = 1) = false := decide_eq_false h1
  have d2 : decide (xs[j].f1 = 2) = false := decide_eq_false h2
  unfold tl1; rw [List.drop_eq_getElem_cons h]
  simp only [List.any_cons, d1, d2, e1, Bool.false_or]
theorem tl1_told (l : List S25) (o need bad : Int) (caps : List S71) (hk : checkS l = 0) (hn : 1 ≤ need) : tl1 (l.filter (fun a => seesS bad caps a && decide (a.f2 = o))) o need 0 false false = toldB ((ofS o l).filter (fun a => seesS bad caps a)) need := by
  unfold ofS
  rw [List.filter_filter]
  generalize hxs : l.filter (fun a => seesS bad caps a && decide (a.f2 = o)) = xs
  have hmem : ∀ a ∈ xs, a ∈ l ∧ a.f2 = o := by
    intro a ha
    rw [← hxs] at ha
    obtain ⟨h3, h4⟩ := List.mem_filter.1 ha
    simp at h4
    exact ⟨h3, h4.2⟩
  have hen := en_any xs o need hn (fun a ha => (hmem a ha).2) (fun a ha h3 => by
    have := check_formed hk (hmem a ha).1
    rw [formedS_eq] at this
    unfold kindS at this
    rw [if_pos h3] at this
    unfold wi at this
    simp at this
    omega)
  unfold tl1 toldB covF
  rw [List.drop_zero, Bool.false_or, Bool.false_or, hen]
theorem asked_need {l : List S25} {o need : Int} (h : askedS l o need 1 12 = 0) : 1 ≤ need := by
  unfold askedS at h
  split at h
  · rename_i h1; exact absurd h h1
  · split at h
    · rename_i h2
      unfold wi at h2
      simp at h2
      omega
    · cases h

set_option maxHeartbeats 8000000 in
set_option maxRecDepth 100000 in
theorem rtold_calls (A : Option Addr) (c : Nat) (l : List S25) (o need bad : Int) (Ac : Option Addr) (cc : Nat) (caps : List S71) (w : World) (hr : Kd.C k25 w A l.length l) (hc : l.length ≤ c) (hl : l.length ≤ 1000) (hof : ∀ x ∈ l, x.f3.length ≤ 1000)
    (hcap : Kd.C k71 w Ac caps.length caps) (hcc : caps.length ≤ cc) :
    Calls Try.prog 36 #[.slice A l.length c, .int .i64 o, .int .i64 need, .agg #[.int .i64 bad, .slice Ac caps.length cc]] w fun e w' => e = .returned (.agg #[.bool (ToldS l o need bad caps).1, .int .i64 (ToldS l o need bad caps).2]) ∧ Below w.heap.size w w' := by
  have hu25 := Try.underlying25
  have hu48 := Try.underlying48
  have hu63 := Try.underlying63
  have HR := Aside0.mk hr
  have HCAP := Aside0.mk hcap
  have HF := Aside0.mk (Kd.C_F k25_heap hr)
  obtain ⟨ka, hka⟩ := (asked_r l o need 1 12 hl hof).rounds
  obtain ⟨ks, hks⟩ := (spied_r bad caps).rounds
  have HKA := Aside0.mk hka
  have HKS := Aside0.mk hks
  clear hr hcap hka hks hof
  go_enter Try.func36, Try.ntmps36
  go_upto_region 1 with (fail)
  have K7 := Aside0.mk (blk_alloc (blk_new w (.cells #[.int .i64 bad, .slice Ac caps.length cc] 48)) (.cells #[.bool false, .int .i64 0] 63))
  have K8 := Aside0.mk (blk_new (w.alloc (.cells #[.int .i64 bad, .slice Ac caps.length cc] 48)) (.cells #[.bool false, .int .i64 0] 63))
  rw [World.size_alloc] at K8
  have HB : Aside0 (Below w.heap.size w ((w.alloc (.cells #[.int .i64 bad, .slice Ac caps.length cc] 48)).alloc (.cells #[.bool false, .int .i64 0] 63))) := ⟨below_alloc (below_alloc (Below.refl _ _) _) _⟩
  generalize ((w.alloc (.cells #[.int .i64 bad, .slice Ac caps.length cc] 48)).alloc (.cells #[.bool false, .int .i64 0] 63)) = w0 at *
  go_wp2_with fail
  refine (quietusref38_asked.calls ka A c l o need 1 12 _ _ (Kd.C_below HR.out HB.out) hc HKA.out).mono ?_
  rintro e w1 ⟨rfl, hb⟩
  replace HB := Aside0.mk (below_step HB.out hb)
  replace K7 := Aside0.mk (blk_below K7.out hb)
  replace K8 := Aside0.mk (blk_below K8.out hb)
  clear hb HKA
  by_cases h0 : askedS l o need 1 12 = 0
  case neg =>
    have HT : Aside0 (ToldS l o need bad caps = (false, askedS l o need 1 12)) := ⟨by unfold ToldS; rw [if_pos h0]⟩
    have g0 : (askedS l o need 1 12 == 0) = false := by simpa using h0
    have g0' : (askedS l o need 1 12 != 0) = true := by simpa using h0
    generalize askedS l o need 1 12 = q at *
    have k8 := blk_cell K8.out
    have f8 := blk_frozen K8.out
    clear h0
    go_wp2
    refine bodyPost_ret (results_cell_row rfl _ _ (w.heap.size + 1) 63 #[.bool false, .int .i64 q] (0, 0) _ rfl (blk_put (cs := #[.bool false, .int .i64 0]) (blk_put (cs := #[.bool false, .int .i64 0]) K8.out 0 _ rfl) 1 _ rfl) Try.underlying63 rfl (by kernel_rfl)) rfl ?_
    exact ⟨by rw [HT.out], below_set (below_set HB.out (Nat.le_succ _)) (Nat.le_succ _)⟩
  have hk := asked_check h0
  have HN := Aside0.mk (asked_need h0)
  have HTA : Aside0 (ToldS l o need bad caps = if spiedS bad caps ≠ 0 then (false, spiedS bad caps) else (toldB ((ofS o l).filter (fun a => seesS bad caps a)) need, 0)) := ⟨by unfold ToldS; rw [if_neg (by simpa using h0)]⟩
  rw [h0]
  clear h0
  have HK := Aside0.mk hk
  clear hk
  have k7 := blk_cell K7.out
  go_wp2_with fail
  refine (quietusref38_spied.calls ks bad Ac cc caps _ _ (Kd.C_below HCAP.out HB.out) hcc HKS.out).mono ?_
  clear k7
  rintro e w2 ⟨rfl, hb⟩
  replace HB := Aside0.mk (below_step HB.out hb)
  replace K7 := Aside0.mk (blk_below K7.out hb)
  replace K8 := Aside0.mk (blk_below K8.out hb)
  clear hb HKS
  by_cases h0 : spiedS bad caps = 0
  case neg =>
    have HT : Aside0 (ToldS l o need bad caps = (false, spiedS bad caps)) := ⟨by rw [HTA.out, if_pos h0]⟩
    have g0' : (spiedS bad caps != 0) = true := by simpa using h0
    generalize spiedS bad caps = q at *
    have k8 := blk_cell K8.out
    have f8 := blk_frozen K8.out
    clear h0
    go_wp2
    refine bodyPost_ret (results_cell_row rfl _ _ (w.heap.size + 1) 63 #[.bool false, .int .i64 q] (0, 0) _ rfl (blk_put (cs := #[.bool false, .int .i64 0]) (blk_put (cs := #[.bool false, .int .i64 0]) K8.out 0 _ rfl) 1 _ rfl) Try.underlying63 rfl (by kernel_rfl)) rfl ?_
    exact ⟨by rw [HT.out], below_set (below_set HB.out (Nat.le_succ _)) (Nat.le_succ _)⟩
  have HT : Aside0 (ToldS l o need bad caps = (tl1 (l.filter (fun a => seesS bad caps a && decide (a.f2 = o))) o need 0 false false, 0)) := ⟨by rw [HTA.out, if_neg (by simpa using h0), tl1_told l o need bad caps HK.out HN.out]⟩
  obtain ⟨b0, b1⟩ := spied_bad h0
  have hcl := spied_len h0
  rw [h0]
  clear h0 HTA HN
  have HBB := Aside0.mk (And.intro b0 b1)
  clear b0 b1
  go_wp2
  go_loopw [10, 11] (fun v10 v11 wr => ∃ j : Nat, v11 = .int .i64 j ∧ j ≤ l.length ∧ Aside0 (Kd.N k25 25 wr w.heap.size (fun k => k ≠ w.heap.size + 1 ∧ k ≠ w.heap.size) v10 ((l.take j).filter (fun a => seesS bad caps a && decide (a.f2 = o)))) ∧ Aside0 (wr.heap[w.heap.size]? = some (.cells #[.int .i64 bad, .slice Ac caps.length cc] 48 (0, 0))) ∧ Aside0 (wr.heap[w.heap.size + 1]? = some (.cells #[.bool false, .int .i64 0] 63 (0, 0))) ∧ Aside0 (Below w.heap.size w wr)) (fun _ v _ => l.length - (intOf v).toNat)
  case atStart => exact ⟨0, rfl, by omega, ⟨Kd.N_nil _ _ _ _ _⟩, K7, K8, HB⟩
  case round =>
    clear K7 K8 HB
    obtain ⟨j, rfl, hj, HO, K7, K8, HB⟩ := hrel
    by_cases hlt : j < l.length
    · have hb4 := where_bd HK.out (List.getElem_mem hlt)
      have ht : l.take (j + 1) = l.take j ++ [l[j]] := by rw [List.take_succ_eq_append_getElem hlt]
      have HX1 : Aside0 ((seesS bad caps l[j] && decide (l[j].f2 = o)) = true → (l.take (j + 1)).filter (fun a => seesS bad caps a && decide (a.f2 = o)) = (l.take j).filter (fun a => seesS bad caps a && decide (a.f2 = o)) ++ [l[j]]) := ⟨fun h => by rw [ht, List.filter_append]; congr 1; simp only [List.filter_cons, h, if_true, List.filter_nil]⟩
      have HX0 : Aside0 ((seesS bad caps l[j] && decide (l[j].f2 = o)) = false → (l.take (j + 1)).filter (fun a => seesS bad caps a && decide (a.f2 = o)) = (l.take j).filter (fun a => seesS bad caps a && decide (a.f2 = o))) := ⟨fun h => by rw [ht, List.filter_append]; simp [h]⟩
      have LX : ((l.take j).filter (fun a => seesS bad caps a && decide (a.f2 = o))).length ≤ 1000 := Nat.le_trans (List.length_filter_le _ _) (by rw [List.length_take]; omega)
      obtain ⟨ad, A3, c3, e1, x0, x1, x2, x3, x4, x5, x6, x7, x8, x9, hl3, hi3⟩ := at_T25 (Kd.C_below HR.out HB.out) (j : Int) (by omega) (by omega)
      subst e1
      have hrd := Aside0.mk (rd25_get l j hlt)
      rw [hrd.out, Int.toNat_natCast] at x0 x1 x2 x3 x4 x5 x6 x7 x8 x9
      rw [hrd.out] at hl3 hi3
      clear ht
      generalize (l.take j).filter (fun a => seesS bad caps a && decide (a.f2 = o)) = xs at *
      generalize hxe : (l.take (j + 1)).filter (fun a => seesS bad caps a && decide (a.f2 = o)) = xs' at *
      have HXe := Aside0.mk hxe
      clear hxe
      generalize l[j] = a at *
      have HI3 := Aside0.mk (Kd.C_drew hi3)
      have k7 := blk_cell K7.out
      clear hi3
      go_wp2_with fail
      go_still_tail 5, (by kernel_rfl)
      change wpList _ _ _ _ _ wr.drew
      clear k7 x0 x1 x2 x3 x4 x5 x6 x7 x8 x9
      replace HB := Aside0.mk (below_drew HB.out)
      replace K7 := Aside0.mk (blk_drew K7.out)
      replace K8 := Aside0.mk (blk_drew K8.out)
      replace HO := Aside0.mk (Kd.N_drew HO.out)
      generalize wr.drew = w3 at *
      go_wp2_with fail
      refine (rsees_calls bad Ac cc caps a A3 c3 _ (Kd.C_below HCAP.out HB.out) (by omega) HI3.out hl3 HBB.out.1 HBB.out.2 hb4.1 hb4.2).mono ?_
      rintro e w4 ⟨rfl, hb⟩
      rw [seesR_eq bad caps a HBB.out.1 HBB.out.2]
      replace HB := Aside0.mk (below_step HB.out hb)
      replace K7 := Aside0.mk (blk_below K7.out hb)
      replace K8 := Aside0.mk (blk_below K8.out hb)
      replace HO := Aside0.mk (Kd.N_below HO.out hb)
      clear hb HI3 hl3
      cases hse : seesS bad caps a with
      | false =>
        have e := HX0.out (by rw [hse]; rfl)
        subst e
        clear hse HX1 HX0
        go_wp2
        go_roundw
        case rel => exact ⟨j + 1, by go_num, by omega, by rw [HXe.out]; exact HO, K7, K8, HB⟩
        case measure => simp [intOf]; omega
      | true =>
        obtain ⟨ad', A4, c4, e2, x0, x1, x2, x3, x4, x5, x6, x7, x8, x9, hl4, hi4⟩ := at_T25 (Kd.C_below HR.out HB.out) (j : Int) (by omega) (by omega)
        obtain ⟨ad'', cs, e3, hcl', hFK, hcs, hokad⟩ := Kd.F_get (Kd.F_below HF.out HB.out) z25 (j : Int) (by omega) (by omega)
        cases e2
        cases e3
        obtain ⟨B3, d3, rfl, hd3, hF3⟩ := k25_openF hFK
        have hv := hcs 3 _ rfl
        rw [add_field _ _ 3 (by decide)] at hv
        replace hv := Option.some.inj (hv.symm.trans x3)
        injection hv with hva hvn hvc
        subst hva
        subst hvc
        have hx : l.getD (j : Int).toNat z25 = a := hrd.out
        rw [hrd.out, Int.toNat_natCast] at x0 x1 x2 x3 x4 x5 x6 x7 x8 x9
        rw [hx] at hFK
        clear hx
        have HFK := Aside0.mk hFK
        clear hFK hcs hd3 hF3 hcl' hokad hi4 hl4
        by_cases h2 : a.f2 = o
        · have g2 : (a.f2 == o) = true := by simpa using h2
          have e := HX1.out (by rw [hse]; simp [h2])
          subst e
          clear hse HX1 HX0 h2
          go_wp2_with (first | ((with_reducible refine gate_builtin (b := .append) (xs := #[.tmp 51, .tmp 56]) rfl ?_); at_builtin; refine Kd.N_append k25 (w0 := w) w.heap.size rfl (.tmp 51) (.tmp 56) 22 25 (.agg #[(.int .i64 0), (.int .i64 0), (.int .i64 0), (.slice none 0 0), (.int .i64 0), (.int .i64 0), (.int .i64 0), (.int .i64 0), (.int .i64 0), (.int .i64 0)]) 96 rfl Try.underlying22 info25 rfl (by decide) (by omega) u10 xs a [.int .i64 a.f0, .int .i64 a.f1, .int .i64 a.f2, .slice B3 a.f3.length d3, .int .i64 a.f4, .int .i64 a.f5, .int .i64 a.f6, .int .i64 a.f7, .int .i64 a.f8, .int .i64 a.f9] (fun k => k ≠ w.heap.size + 1 ∧ k ≠ w.heap.size) (fun k => k < w.heap.size) rfl rfl ?aP ?aK ?aF ?aO ?aB ?aS ?aL ?_; (case aP => exact HFK.out); (case aK => exact fun k hk => ⟨⟨by omega, by omega⟩, fun h => by have := Kd.N_base HO.out k h.symm; omega⟩); (case aF => exact fun k hk => by have := blk_lt K8.out; exact ⟨by omega, by omega⟩); (case aO => exact HO.out); (case aB => exact HB.out); (case aS => exact below_size HB.out); (case aL => omega); intro v1 w5 ho hb hg hat; have K7' := Aside0.mk (blk_grown K7.out hg (Kd.N_ne HO.out K7.out (by decide))); have K8' := Aside0.mk (blk_grown K8.out hg (Kd.N_ne HO.out K8.out (by decide))); clear K7 K8 HO HB x0 x1 x2 x3 x4 x5 x6 x7 x8 x9; have HO := Aside0.mk ho; have HB := Aside0.mk hb; clear ho hb hg hat))
          go_roundw
          case rel => exact ⟨j + 1, by go_num, by omega, by rw [HXe.out]; exact HO, K7', K8', HB⟩
          case measure => simp [intOf]; omega
        · have g2 : (a.f2 == o) = false := by simpa using h2
          have e := HX0.out (by rw [hse]; simp [h2])
          subst e
          clear hse HX1 HX0 h2
          go_wp2
          go_roundw
          case rel => exact ⟨j + 1, by go_num, by omega, by rw [HXe.out]; exact HO, K7, K8, HB⟩
          case measure => simp [intOf]; omega
    · have e0 : l.take j = l := List.take_of_length_le (by omega)
      rw [e0] at HO
      have LX : (l.filter (fun a => seesS bad caps a && decide (a.f2 = o))).length ≤ 1000 := Nat.le_trans (List.length_filter_le _ _) hl
      clear e0 K7
      generalize l.filter (fun a => seesS bad caps a && decide (a.f2 = o)) = xs at *
      obtain ⟨AX, cX, e1, hcX, hCX⟩ := Kd.N_reads HO.out
      subst e1
      have HCX := Aside0.mk hCX
      clear hCX HO
      go_wp2
      go_loopw [13, 14, 15] (fun v13 v14 v15 ws => ∃ (i : Nat) (cb eb : Bool), v13 = .bool cb ∧ v14 = .bool eb ∧ v15 = .int .i64 i ∧ i ≤ xs.length ∧ Aside0 (tl1 xs o need i cb eb = tl1 xs o need 0 false false) ∧ Aside0 (Below wr.heap.size wr ws)) (fun _ _ v _ => xs.length - (intOf v).toNat)
      case atStart => exact ⟨0, false, false, rfl, rfl, rfl, by omega, ⟨rfl⟩, ⟨Below.refl _ _⟩⟩
      case round =>
        obtain ⟨i, cb, eb, rfl, rfl, rfl, hi, HI, HB2⟩ := hrel
        have K8w := Aside0.mk (blk_below K8.out HB2.out)
        have HBw := Aside0.mk (below_step HB.out HB2.out)
        have k8 := blk_cell K8w.out
        have f8 := blk_frozen K8w.out
        by_cases hlt : i < xs.length
        · obtain ⟨ad, A3, c3, e1, x0, x1, x2, x3, x4, x5, x6, x7, x8, x9, hl3, hi3⟩ := at_T25 (Kd.C_below HCX.out HB2.out) (i : Int) (by omega) (by omega)
          subst e1
          rw [rd25_get xs i hlt, Int.toNat_natCast] at x1 x9
          clear x0 x2 x3 x4 x5 x6 x7 x8 hl3 hi3
          by_cases h1 : xs[i].f1 = 1
          · have g1 : (xs[i].f1 == 1) = true := by simpa using h1
            have HF1 := Aside0.mk (HI.out.symm.trans (tl1_1 hlt h1))
            clear h1 HI
            generalize xs[i] = a at *
            go_wp2
            refine bodyPost_ret (results_cell_row rfl _ _ (w.heap.size + 1) 63 #[.bool true, .int .i64 0] (0, 0) _ rfl (blk_put (cs := #[.bool true, .int .i64 0]) (blk_put (cs := #[.bool false, .int .i64 0]) K8w.out 0 _ rfl) 1 _ rfl) Try.underlying63 rfl (by kernel_rfl)) rfl ?_
            exact ⟨by rw [HT.out, HF1.out], below_set (below_set HBw.out (Nat.le_succ _)) (Nat.le_succ _)⟩
          have g1 : (xs[i].f1 == 1) = false := by simpa using h1
          clear k8 f8
          by_cases h2 : xs[i].f1 = 2
          · have g2 : (xs[i].f1 == 2) = true := by simpa using h2
            have g3 : (xs[i].f1 == 3) = false := by rw [h2]; rfl
            have HI2 := Aside0.mk ((tl1_2 hlt h2).symm.trans HI.out)
            clear h1 h2 HI
            generalize xs[i] = a at *
            go_wp2
            go_roundw
            case rel => exact ⟨i + 1, true, eb, rfl, rfl, by go_num, by omega, HI2, HB2⟩
            case measure => simp [intOf]; omega
          have g2 : (xs[i].f1 == 2) = false := by simpa using h2
          by_cases h3 : xs[i].f1 = 3
          · have g3 : (xs[i].f1 == 3) = true := by simpa using h3
            have HI2 := Aside0.mk ((tl1_3 hlt h3).symm.trans HI.out)
            obtain ⟨kh, hkh⟩ := (holders_r xs o xs[i].f9 (by omega)).rounds
            have HKH := Aside0.mk hkh
            clear h1 h2 h3 HI hkh
            generalize xs[i] = a at *
            go_wp2_with fail
            refine (quietusref38_holders.calls kh (some ad) cX xs o a.f9 _ _ (Kd.C_below HCX.out HB2.out) hcX HKH.out).mono ?_
            rintro e w6 ⟨rfl, hb⟩
            replace HB2 := Aside0.mk (below_step HB2.out hb)
            clear hb HKH x1 x9
            generalize ((xs.foldl (hstep o a.f9) []).length : Int) = m at *
            cases eb with
            | true =>
              go_wp2
              go_roundw
              case rel => exact ⟨i + 1, cb, true, rfl, rfl, by go_num, by omega, HI2, HB2⟩
              case measure => simp [intOf]; omega
            | false =>
              replace HI2 := Aside0.mk (show tl1 xs o need (i + 1) cb (decide (need ≤ m)) = tl1 xs o need 0 false false by rw [← HI2.out, Bool.false_or])
              go_wp2
              go_roundw
              case rel => exact ⟨i + 1, cb, decide (need ≤ m), rfl, rfl, by go_num, by omega, HI2, HB2⟩
              case measure => simp [intOf]; omega
          have g3 : (xs[i].f1 == 3) = false := by simpa using h3
          have HI2 := Aside0.mk ((tl1_0 hlt h1 h2 h3).symm.trans HI.out)
          clear h1 h2 h3 HI
          generalize xs[i] = a at *
          go_wp2
          go_roundw
          case rel => exact ⟨i + 1, cb, eb, rfl, rfl, by go_num, by omega, HI2, HB2⟩
          case measure => simp [intOf]; omega
        · obtain rfl : i = xs.length := by omega
          have HF1 := Aside0.mk (HI.out.symm.trans (tl1_end xs o need cb eb))
          clear HI
          cases cb with
          | true =>
            go_wp2
            refine bodyPost_ret (results_cell_row rfl _ _ (w.heap.size + 1) 63 #[.bool eb, .int .i64 0] (0, 0) _ rfl (blk_put (cs := #[.bool eb, .int .i64 0]) (blk_put (cs := #[.bool false, .int .i64 0]) K8w.out 0 _ rfl) 1 _ rfl) Try.underlying63 rfl (by kernel_rfl)) rfl ?_
            exact ⟨by rw [HT.out, HF1.out, Bool.true_and], below_set (below_set HBw.out (Nat.le_succ _)) (Nat.le_succ _)⟩
          | false =>
            go_wp2
            refine bodyPost_ret (results_cell_row rfl _ _ (w.heap.size + 1) 63 #[.bool false, .int .i64 0] (0, 0) _ rfl (blk_put (cs := #[.bool false, .int .i64 0]) (blk_put (cs := #[.bool false, .int .i64 0]) K8w.out 0 _ rfl) 1 _ rfl) Try.underlying63 rfl (by kernel_rfl)) rfl ?_
            exact ⟨by rw [HT.out, HF1.out, Bool.false_and], below_set (below_set HBw.out (Nat.le_succ _)) (Nat.le_succ _)⟩
end Go.Proofs.Ytlelhmephibfjaa.T
