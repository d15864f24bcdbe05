/- Texts of this claim, laid together: M4. -/
import Derived.Test.YtlelhmephibfjaaB10
import Derived.Test.YtlelhmephibfjaaB9
import Derived.StillTailTactics

namespace Go.Proofs.Ytlelhmephibfjaa.T
set_option linter.unusedVariables false
set_option linter.unusedSimpArgs false
open Go.RowKit Go.Proofs.YtlelhmephibfjaaW.PrintWords Go.Proofs.YtlelhmephibfjaaW.PrintLast Go.Proofs.YtlelhmephibfjaaW.PrintMore

theorem asked_tick {l : List S25} {o tick : Int} (h : askedS l o tick 0 1000000 = 0) : 0 ≤ tick ∧ tick ≤ 1000000 := by
  unfold askedS at h
  split at h
  · rename_i h1; exact absurd h h1
  · split at h
    · rename_i h2
      unfold wi at h2
      simp at h2
      exact h2.2
    · cases h
theorem R_put {w W : World} {g n c : Nat} {A : Option Addr} {cs : Array Value} {xs : List Int} (h : Kd.R (Kd.int .i64) 3 W w.heap.size (fun _ => True) (.slice A n c) xs) (hb : W.heap[g]? = some (.cells cs 40 (0, 0))) (u v : Value) : Kd.R (Kd.int .i64) 3 ((W.setCell ⟨g, 0, none⟩ u).setCell ⟨g, 1, none⟩ v) w.heap.size (fun _ => True) (.slice A n c) xs :=
  Kd.R_mono (Kd.R_far (Kd.R_far (Kd.R_types h hb (by decide)) (fun _ hk => hk.2) _) (fun _ hk => hk.2) _) (fun _ _ => trivial)

def lateP (o tick : Int) (a : S25) : Bool := lateB tick a && decide (a.f2 = o)
set_option maxRecDepth 100000 in
set_option maxHeartbeats 8000000 in
theorem rlate_calls (A : Option Addr) (c : Nat) (l : List S25) (o tick : Int) (w : World) (hr : Kd.C k25 w A l.length l) (hc : l.length ≤ c) (hl : l.length ≤ 1000) (hof : ∀ x ∈ l, x.f3.length ≤ 1000) :
    Calls Try.prog 32 #[.slice A l.length c, .int .i64 o, .int .i64 tick] w fun e w' => ∃ v, e = .returned (.agg #[v, .int .i64 (LateS l o tick).2]) ∧ Kd.R (Kd.int .i64) 3 w' w.heap.size (fun _ => True) v (LateS l o tick).1 ∧ Below w.heap.size w w' := by
  have hu25 := Try.underlying25
  have hu40 := Try.underlying40
  have HR := Aside0.mk hr
  obtain ⟨ka, hka⟩ := (asked_r l o tick 0 1000000 hl hof).rounds
  have HKA := Aside0.mk hka
  clear hr hka hof
  go_enter Try.func32, Try.ntmps32
  go_upto_region 1 with (fail)
  have K6 := Aside0.mk (blk_new w (.cells #[.slice none 0 0, .int .i64 0] 40))
  have HB : Aside0 (Below w.heap.size w (w.alloc (.cells #[.slice none 0 0, .int .i64 0] 40))) := ⟨below_alloc (Below.refl _ _) _⟩
  generalize w.alloc (.cells #[.slice none 0 0, .int .i64 0] 40) = w0 at *
  go_wp2_with fail
  refine (quietusref38_asked.calls ka A c l o tick 0 1000000 _ _ (Kd.C_below HR.out HB.out) hc HKA.out).mono ?_
  rintro e w1 ⟨rfl, hb⟩
  replace HB := Aside0.mk (below_step HB.out hb)
  replace K6 := Aside0.mk (blk_below K6.out hb)
  clear hb HKA
  by_cases h0 : askedS l o tick 0 1000000 = 0
  case neg =>
    have HP := Aside0.mk (show LateS l o tick = ([], askedS l o tick 0 1000000) by unfold LateS; rw [if_pos h0])
    have g0 : (askedS l o tick 0 1000000 != 0) = true := by simpa using h0
    generalize askedS l o tick 0 1000000 = q at *
    have k6 := blk_cell K6.out
    have f6 := blk_frozen K6.out
    clear h0
    go_wp2
    refine bodyPost_ret (results_cell_row rfl _ _ (w.heap.size) 40 #[.slice none 0 0, .int .i64 q] (0, 0) _ rfl (blk_put (cs := #[.slice none 0 0, .int .i64 0]) (blk_put (cs := #[.slice none 0 0, .int .i64 0]) K6.out 0 _ rfl) 1 _ rfl) Try.underlying40 rfl (by kernel_rfl)) rfl ?_
    exact ⟨_, by rw [HP.out], by rw [HP.out]; exact Kd.R_nil _ _ _ _ _, below_set (below_set HB.out (Nat.le_refl _)) (Nat.le_refl _)⟩
  have HK := Aside0.mk (asked_check h0)
  obtain ⟨t0, t1⟩ := asked_tick h0
  have HP := Aside0.mk (show LateS l o tick = ((l.filter (lateP o tick)).map (·.f0), 0) by unfold LateS lateF ofS; rw [if_neg (by simpa using h0), List.filter_filter]; rfl)
  rw [h0]
  clear h0
  go_wp2
  go_loopw [8, 9] (fun v8 v9 wr => ∃ j : Nat, v9 = .int .i64 j ∧ j ≤ l.length ∧ Aside0 (Kd.R (Kd.int .i64) 3 wr w.heap.size (fun _ => True) v8 (((l.take j).filter (lateP o tick)).map (·.f0))) ∧ Aside0 (wr.heap[w.heap.size]? = some (.cells #[.slice none 0 0, .int .i64 0] 40 (0, 0))) ∧ Aside0 (Below w.heap.size w wr)) (fun _ v _ => l.length - (intOf v).toNat)
  case atStart => exact ⟨0, rfl, by omega, ⟨Kd.R_nil _ _ _ _ _⟩, K6, HB⟩
  case round =>
    clear K6 HB
    obtain ⟨j, rfl, hj, HO, K6, HB⟩ := hrel
    by_cases hlt : j < l.length
    · have hbd := formed_bd (check_formed HK.out (List.getElem_mem hlt))
      have ht : l.take (j + 1) = l.take j ++ [l[j]] := by rw [List.take_succ_eq_append_getElem hlt]
      have HX1 : Aside0 (lateP o tick l[j] = true → ((l.take (j + 1)).filter (lateP o tick)).map (·.f0) = ((l.take j).filter (lateP o tick)).map (·.f0) ++ [l[j].f0]) := ⟨fun h => by rw [ht, List.filter_append, List.map_append]; congr 1; simp only [List.filter_cons, h, if_true, List.filter_nil, List.map_cons, List.map_nil]⟩
      have HX0 : Aside0 (lateP o tick l[j] = false → ((l.take (j + 1)).filter (lateP o tick)).map (·.f0) = ((l.take j).filter (lateP o tick)).map (·.f0)) := ⟨fun h => by rw [ht, List.filter_append]; simp only [List.filter_cons, h, List.filter_nil, Bool.false_eq_true, if_false, List.append_nil]⟩
      have LX : (((l.take j).filter (lateP o tick)).map (·.f0)).length ≤ 1000 := by rw [List.length_map]; exact Nat.le_trans (List.length_filter_le _ _) (by rw [List.length_take]; omega)
      obtain ⟨ad, A3, c3, e1, x0, x1, x2, x3, x4, x5, x6, x7, x8, x9, hl3, hi3⟩ := at_T25 (Kd.C_below HR.out HB.out) (j : Int) (by omega) (by omega)
      subst e1
      have hrd := Aside0.mk (rd25_get l j hlt)
      rw [hrd.out] at hl3 hi3
      rw [hrd.out, Int.toNat_natCast] at x0 x1 x2 x3 x4 x5 x6 x7 x8 x9
      clear ht
      generalize ((l.take j).filter (lateP o tick)).map (·.f0) = xs at *
      generalize hxe : ((l.take (j + 1)).filter (lateP o tick)).map (·.f0) = xs' at *
      have HXe := Aside0.mk hxe
      clear hxe
      have HE : Aside0 (lateP o tick l[j] = ((((l[j].f1 != 4) && decide (l[j].f6 < l[j].f7)) && decide (tick + 2 < l[j].f7 - 1)) && decide (l[j].f2 = o))) := ⟨rfl⟩
      generalize l[j] = a at *
      have q6 : 0 ≤ a.f6 ∧ a.f6 ≤ 1000000 := hbd.2.2.2.2.2.1
      have q7 : a.f7 ≤ 1000001 := by have := hbd; omega
      have q7' : 0 ≤ a.f7 := by have := hbd; omega
      clear hbd hl3 hi3
      go_upto_region 9 with (fail)
      clear x0 x1 x2 x3 x4 x5 x6 x7 x8 x9
      replace K6 := Aside0.mk (blk_alloc K6.out (.cells #[.int .i64 a.f0, .int .i64 a.f1, .int .i64 a.f2, .slice A3 a.f3.length c3, .int .i64 a.f4, .int .i64 a.f5, .int .i64 a.f6, .int .i64 a.f7, .int .i64 a.f8, .int .i64 a.f9] 25))
      replace HO := Aside0.mk (Kd.R_alloc HO.out (.cells #[.int .i64 a.f0, .int .i64 a.f1, .int .i64 a.f2, .slice A3 a.f3.length c3, .int .i64 a.f4, .int .i64 a.f5, .int .i64 a.f6, .int .i64 a.f7, .int .i64 a.f8, .int .i64 a.f9] 25))
      replace HB := Aside0.mk (below_alloc HB.out (.cells #[.int .i64 a.f0, .int .i64 a.f1, .int .i64 a.f2, .slice A3 a.f3.length c3, .int .i64 a.f4, .int .i64 a.f5, .int .i64 a.f6, .int .i64 a.f7, .int .i64 a.f8, .int .i64 a.f9] 25))
      have K10 := Aside0.mk (blk_new wr (.cells #[.int .i64 a.f0, .int .i64 a.f1, .int .i64 a.f2, .slice A3 a.f3.length c3, .int .i64 a.f4, .int .i64 a.f5, .int .i64 a.f6, .int .i64 a.f7, .int .i64 a.f8, .int .i64 a.f9] 25))
      generalize wr.heap.size = g10 at *
      generalize wr.alloc (.cells #[.int .i64 a.f0, .int .i64 a.f1, .int .i64 a.f2, .slice A3 a.f3.length c3, .int .i64 a.f4, .int .i64 a.f5, .int .i64 a.f6, .int .i64 a.f7, .int .i64 a.f8, .int .i64 a.f9] 25) = w2 at *
      have k10 := blk_cell K10.out
      by_cases h2 : a.f2 = o
      case neg =>
        have gh2 : (a.f2 == o) = false := by simpa using h2
        have e := HX0.out (by rw [HE.out]; simp [h2])
        subst e
        clear HX0 HX1 HE K10
        go_wp2
        go_roundw
        case rel => exact ⟨j + 1, by go_num, by omega, by rw [HXe.out]; exact HO, K6, HB⟩
        case measure => simp [intOf]; omega
      have gh2 : (a.f2 == o) = true := by simpa using h2
      by_cases h1 : a.f1 ≠ 4
      case neg =>
        have gh1 : (a.f1 != 4) = false := by simpa using h1
        have e := HX0.out (by rw [HE.out]; simp [h1])
        subst e
        clear HX0 HX1 HE K10
        go_wp2
        go_roundw
        case rel => exact ⟨j + 1, by go_num, by omega, by rw [HXe.out]; exact HO, K6, HB⟩
        case measure => simp [intOf]; omega
      have gh1 : (a.f1 != 4) = true := by simpa using h1
      by_cases h3 : a.f6 < a.f7
      case neg =>
        have gh3 : decide (a.f6 < a.f7) = false := by exact decide_eq_false h3
        have e := HX0.out (by rw [HE.out]; simp [h3])
        subst e
        clear HX0 HX1 HE K10
        go_wp2
        go_roundw
        case rel => exact ⟨j + 1, by go_num, by omega, by rw [HXe.out]; exact HO, K6, HB⟩
        case measure => simp [intOf]; omega
      have gh3 : decide (a.f6 < a.f7) = true := by exact decide_eq_true h3
      by_cases h4 : tick + 2 < a.f7 - 1
      case neg =>
        have gh4 : decide (tick + 2 < a.f7 - 1) = false := by exact decide_eq_false h4
        have e := HX0.out (by rw [HE.out]; simp [h4])
        subst e
        clear HX0 HX1 HE K10
        go_wp2
        go_roundw
        case rel => exact ⟨j + 1, by go_num, by omega, by rw [HXe.out]; exact HO, K6, HB⟩
        case measure => simp [intOf]; omega
      have gh4 : decide (tick + 2 < a.f7 - 1) = true := by exact decide_eq_true h4
      have e := HX1.out (by rw [HE.out]; simp only [gh1, gh3, gh4, Bool.true_and]; exact decide_eq_true h2)
      subst e
      have HM := Aside0.mk (And.intro h1 h2)
      clear HX0 HX1 HE h1 h2 h3 h4
      go_wp2_with (first | ((with_reducible refine gate_builtin (b := .append) (xs := #[.tmp 53, .tmp 56]) rfl ?_); at_builtin; refine Kd.R_append (Kd.int .i64) (w0 := w) w.heap.size rfl (.tmp 53) (.tmp 56) 23 3 (.int .i64 0) 8 rfl Try.underlying23 info3 rfl (by decide) (by omega) u8 xs a.f0 [.int .i64 a.f0] (fun _ => True) (fun _ => False) rfl rfl rfl (fun _ hk => hk.elim) (fun _ _ => trivial) HO.out ?aB ?aS ?aL ?_; (case aB => exact HB.out); (case aS => exact HB.out.size); (case aL => omega); intro v1 w5 ho hb hg hat; have K6' := Aside0.mk (blk_grown K6.out hg (Kd.R_ne HO.out K6.out (by decide))); clear K6 HO HB; have HO := Aside0.mk ho; have HB := Aside0.mk hb; clear ho hb hg hat))
      clear k10 K10
      go_roundw
      case rel => exact ⟨j + 1, by go_num, by omega, by rw [HXe.out]; exact HO, K6', HB⟩
      case measure => simp [intOf]; omega
    · have e0 : l.take j = l := List.take_of_length_le (by omega)
      rw [e0] at HO
      obtain ⟨A8, c8, e1, -, -⟩ := Kd.R_reads HO.out
      subst e1
      have k6 := blk_cell K6.out
      have f6 := blk_frozen K6.out
      clear e0
      generalize ((l.filter (lateP o tick)).map (·.f0)) = xs at *
      go_wp2
      refine bodyPost_ret (results_cell_row rfl _ _ (w.heap.size) 40 #[.slice A8 xs.length c8, .int .i64 0] (0, 0) _ rfl (blk_put (cs := #[.slice A8 xs.length c8, .int .i64 0]) (blk_put (cs := #[.slice none 0 0, .int .i64 0]) K6.out 0 _ rfl) 1 _ rfl) Try.underlying40 rfl (by kernel_rfl)) rfl ?_
      exact ⟨_, by rw [HP.out], by rw [HP.out]; exact R_put HO.out K6.out _ _, below_set (below_set HB.out (Nat.le_refl _)) (Nat.le_refl _)⟩

set_option maxRecDepth 100000 in
set_option maxHeartbeats 8000000 in
theorem rhas_calls (A : Option Addr) (c : Nat) (l : List S25) (bad : Int) (Ac : Option Addr) (cc : Nat) (caps : List S71) (w : World) (hr : Kd.C k25 w A l.length l) (hc : l.length ≤ c) (hl : l.length ≤ 1000) (hof : ∀ x ∈ l, x.f3.length ≤ 1000) (hcap : Kd.C k71 w Ac caps.length caps) (hcc : caps.length ≤ cc) :
    Calls Try.prog 34 #[.slice A l.length c, .agg #[.int .i64 bad, .slice Ac caps.length cc]] w fun e w' => ∃ v, e = .returned (.agg #[v, .int .i64 (HasS l bad caps).2]) ∧ Kd.R (Kd.int .i64) 3 w' w.heap.size (fun _ => True) v (HasS l bad caps).1 ∧ Below w.heap.size w w' := by
  have hu25 := Try.underlying25
  have hu40 := Try.underlying40
  have hu48 := Try.underlying48
  have HR := Aside0.mk hr
  have HCAP := Aside0.mk hcap
  obtain ⟨ka, hka⟩ := (check_r l hl hof).rounds
  obtain ⟨ks, hks⟩ := (spied_r bad caps).rounds
  have HKA := Aside0.mk hka
  have HKS := Aside0.mk hks
  clear hr hcap hka hks hof
  go_enter Try.func34, Try.ntmps34
  go_upto_region 1 with (fail)
  have K3 := Aside0.mk (blk_alloc (blk_new w (.cells #[.int .i64 bad, .slice Ac caps.length cc] 48)) (.cells #[.slice none 0 0, .int .i64 0] 40))
  have K6 := Aside0.mk (blk_new (w.alloc (.cells #[.int .i64 bad, .slice Ac caps.length cc] 48)) (.cells #[.slice none 0 0, .int .i64 0] 40))
  rw [World.size_alloc] at K6
  have HB : Aside0 (Below w.heap.size w ((w.alloc (.cells #[.int .i64 bad, .slice Ac caps.length cc] 48)).alloc (.cells #[.slice none 0 0, .int .i64 0] 40))) := ⟨below_alloc (below_alloc (Below.refl _ _) _) _⟩
  generalize (w.alloc (.cells #[.int .i64 bad, .slice Ac caps.length cc] 48)).alloc (.cells #[.slice none 0 0, .int .i64 0] 40) = w0 at *
  go_wp2_with fail
  refine (quietusref38_Check.calls ka A c l _ _ (Kd.C_below HR.out HB.out) hc HKA.out).mono ?_
  rintro e w1 ⟨rfl, hb⟩
  replace HB := Aside0.mk (below_step HB.out hb)
  replace K3 := Aside0.mk (blk_below K3.out hb)
  replace K6 := Aside0.mk (blk_below K6.out hb)
  clear hb HKA
  by_cases h0 : checkS l = 0
  case neg =>
    have HP := Aside0.mk (show HasS l bad caps = ([], checkS l) by unfold HasS; rw [if_pos h0])
    have g0 : (checkS l == 0) = false := by simpa using h0
    have g0' : (checkS l != 0) = true := by simpa using h0
    generalize checkS l = q at *
    have k6 := blk_cell K6.out
    have f6 := blk_frozen K6.out
    clear h0
    go_wp2
    refine bodyPost_ret (results_cell_row rfl _ _ (w.heap.size + 1) 40 #[.slice none 0 0, .int .i64 q] (0, 0) _ rfl (blk_put (cs := #[.slice none 0 0, .int .i64 0]) (blk_put (cs := #[.slice none 0 0, .int .i64 0]) K6.out 0 _ rfl) 1 _ rfl) Try.underlying40 rfl (by kernel_rfl)) rfl ?_
    exact ⟨_, by rw [HP.out], by rw [HP.out]; exact Kd.R_nil _ _ _ _ _, below_set (below_set HB.out (Nat.le_succ _)) (Nat.le_succ _)⟩
  have HK := Aside0.mk h0
  rw [h0]
  clear h0
  have k3 := blk_cell K3.out
  go_wp2_with fail
  clear k3
  refine (quietusref38_spied.calls ks bad Ac cc caps _ _ (Kd.C_below HCAP.out HB.out) hcc HKS.out).mono ?_
  rintro e w2 ⟨rfl, hb⟩
  replace HB := Aside0.mk (below_step HB.out hb)
  replace K3 := Aside0.mk (blk_below K3.out hb)
  replace K6 := Aside0.mk (blk_below K6.out hb)
  clear hb HKS
  by_cases h0 : spiedS bad caps = 0
  case neg =>
    have HP := Aside0.mk (show HasS l bad caps = ([], spiedS bad caps) by unfold HasS; rw [if_neg (by simpa using HK.out), if_pos h0])
    have g0' : (spiedS bad caps != 0) = true := by simpa using h0
    generalize spiedS bad caps = q at *
    have k6 := blk_cell K6.out
    have f6 := blk_frozen K6.out
    clear h0
    go_wp2
    refine bodyPost_ret (results_cell_row rfl _ _ (w.heap.size + 1) 40 #[.slice none 0 0, .int .i64 q] (0, 0) _ rfl (blk_put (cs := #[.slice none 0 0, .int .i64 0]) (blk_put (cs := #[.slice none 0 0, .int .i64 0]) K6.out 0 _ rfl) 1 _ rfl) Try.underlying40 rfl (by kernel_rfl)) rfl ?_
    exact ⟨_, by rw [HP.out], by rw [HP.out]; exact Kd.R_nil _ _ _ _ _, below_set (below_set HB.out (Nat.le_succ _)) (Nat.le_succ _)⟩
  have HP := Aside0.mk (show HasS l bad caps = ((l.filter (seesS bad caps)).map (·.f0), 0) by unfold HasS; rw [if_neg (by simpa using HK.out), if_neg (by simpa using h0)])
  have HBB := Aside0.mk (spied_bad h0)
  have hcl := spied_len h0
  rw [h0]
  clear h0
  go_wp2
  go_loopw [6, 7] (fun v6 v7 wr => ∃ j : Nat, v7 = .int .i64 j ∧ j ≤ l.length ∧ Aside0 (Kd.R (Kd.int .i64) 3 wr w.heap.size (fun _ => True) v6 (((l.take j).filter (seesS bad caps)).map (·.f0))) ∧ Aside0 (wr.heap[w.heap.size]? = some (.cells #[.int .i64 bad, .slice Ac caps.length cc] 48 (0, 0))) ∧ Aside0 (wr.heap[w.heap.size + 1]? = some (.cells #[.slice none 0 0, .int .i64 0] 40 (0, 0))) ∧ Aside0 (Below w.heap.size w wr)) (fun _ v _ => l.length - (intOf v).toNat)
  case atStart => exact ⟨0, rfl, by omega, ⟨Kd.R_nil _ _ _ _ _⟩, K3, K6, HB⟩
  case round =>
    clear K3 K6 HB
    obtain ⟨j, rfl, hj, HO, K3, K6, HB⟩ := hrel
    by_cases hlt : j < l.length
    · have hb4 := where_bd HK.out (List.getElem_mem hlt)
      have ht : l.take (j + 1) = l.take j ++ [l[j]] := by rw [List.take_succ_eq_append_getElem hlt]
      have HX1 : Aside0 (seesS bad caps l[j] = true → ((l.take (j + 1)).filter (seesS bad caps)).map (·.f0) = ((l.take j).filter (seesS bad caps)).map (·.f0) ++ [l[j].f0]) := ⟨fun h => by rw [ht, List.filter_append, List.map_append]; congr 1; simp only [List.filter_cons, h, if_true, List.filter_nil, List.map_cons, List.map_nil]⟩
      have HX0 : Aside0 (seesS bad caps l[j] = false → ((l.take (j + 1)).filter (seesS bad caps)).map (·.f0) = ((l.take j).filter (seesS bad caps)).map (·.f0)) := ⟨fun h => by rw [ht, List.filter_append]; simp only [List.filter_cons, h, List.filter_nil, Bool.false_eq_true, if_false, List.append_nil]⟩
      have LX : (((l.take j).filter (seesS bad caps)).map (·.f0)).length ≤ 1000 := by rw [List.length_map]; exact Nat.le_trans (List.length_filter_le _ _) (by rw [List.length_take]; omega)
      obtain ⟨ad, A3, c3, e1, x0, x1, x2, x3, x4, x5, x6, x7, x8, x9, hl3, hi3⟩ := at_T25 (Kd.C_below HR.out HB.out) (j : Int) (by omega) (by omega)
      subst e1
      have hrd := Aside0.mk (rd25_get l j hlt)
      rw [hrd.out] at hl3 hi3
      rw [hrd.out, Int.toNat_natCast] at x0 x1 x2 x3 x4 x5 x6 x7 x8 x9
      clear ht
      generalize ((l.take j).filter (seesS bad caps)).map (·.f0) = xs at *
      generalize hxe : ((l.take (j + 1)).filter (seesS bad caps)).map (·.f0) = xs' at *
      have HXe := Aside0.mk hxe
      clear hxe
      generalize l[j] = a at *
      have HI3 := Aside0.mk (Kd.C_drew hi3)
      have k3 := blk_cell K3.out
      clear hi3
      go_wp2_with fail
      go_still_tail 5, (by kernel_rfl)
      change wpList _ _ _ _ _ wr.drew
      clear k3
      clear x0 x1 x2 x3 x4 x5 x6 x7 x8 x9
      replace HB := Aside0.mk (below_drew HB.out)
      replace K3 := Aside0.mk (blk_drew K3.out)
      replace K6 := Aside0.mk (blk_drew K6.out)
      replace HO := Aside0.mk (Kd.R_drew HO.out)
      generalize wr.drew = w3 at *
      go_wp2_with fail
      refine (rsees_calls bad Ac cc caps a A3 c3 _ (Kd.C_below HCAP.out HB.out) (by omega) HI3.out hl3 HBB.out.1 HBB.out.2 hb4.1 hb4.2).mono ?_
      rintro e w4 ⟨rfl, hb⟩
      rw [seesR_eq bad caps a HBB.out.1 HBB.out.2]
      replace HB := Aside0.mk (below_step HB.out hb)
      replace K3 := Aside0.mk (blk_below K3.out hb)
      replace K6 := Aside0.mk (blk_below K6.out hb)
      replace HO := Aside0.mk (Kd.R_below HO.out hb)
      clear hb HI3 hl3
      cases hse : seesS bad caps a with
      | false =>
        have e := HX0.out hse
        subst e
        clear hse HX1 HX0
        go_wp2
        go_roundw
        case rel => exact ⟨j + 1, by go_num, by omega, by rw [HXe.out]; exact HO, K3, K6, HB⟩
        case measure => simp [intOf]; omega
      | true =>
        obtain ⟨ad', A4, c4, e2, x0, x1, x2, x3, x4, x5, x6, x7, x8, x9, hl4, hi4⟩ := at_T25 (Kd.C_below HR.out HB.out) (j : Int) (by omega) (by omega)
        cases e2
        rw [hrd.out, Int.toNat_natCast] at x0
        clear x1 x2 x3 x4 x5 x6 x7 x8 x9 hi4 hl4
        have e := HX1.out hse
        subst e
        clear hse HX1 HX0
        go_wp2_with (first | ((with_reducible refine gate_builtin (b := .append) (xs := #[.tmp 32, .tmp 38]) rfl ?_); at_builtin; refine Kd.R_append (Kd.int .i64) (w0 := w) w.heap.size rfl (.tmp 32) (.tmp 38) 23 3 (.int .i64 0) 8 rfl Try.underlying23 info3 rfl (by decide) (by omega) u6 xs a.f0 [.int .i64 a.f0] (fun _ => True) (fun _ => False) rfl rfl rfl (fun _ hk => hk.elim) (fun _ _ => trivial) HO.out ?aB ?aS ?aL ?_; (case aB => exact HB.out); (case aS => exact HB.out.size); (case aL => omega); intro v1 w5 ho hb hg hat; have K6' := Aside0.mk (blk_grown K6.out hg (Kd.R_ne HO.out K6.out (by decide))); have K3' := Aside0.mk (blk_grown K3.out hg (Kd.R_ne HO.out K3.out (by decide))); clear K3 K6 HO HB; have HO := Aside0.mk ho; have HB := Aside0.mk hb; clear ho hb hg hat))
        clear x0
        go_roundw
        case rel => exact ⟨j + 1, by go_num, by omega, by rw [HXe.out]; exact HO, K3', K6', HB⟩
        case measure => simp [intOf]; omega
    · have e0 : l.take j = l := List.take_of_length_le (by omega)
      rw [e0] at HO
      obtain ⟨A8, c8, e1, -, -⟩ := Kd.R_reads HO.out
      subst e1
      have k6 := blk_cell K6.out
      have f6 := blk_frozen K6.out
      clear e0
      generalize ((l.filter (seesS bad caps)).map (·.f0)) = xs at *
      go_wp2
      refine bodyPost_ret (results_cell_row rfl _ _ (w.heap.size + 1) 40 #[.slice A8 xs.length c8, .int .i64 0] (0, 0) _ rfl (blk_put (cs := #[.slice A8 xs.length c8, .int .i64 0]) (blk_put (cs := #[.slice none 0 0, .int .i64 0]) K6.out 0 _ rfl) 1 _ rfl) Try.underlying40 rfl (by kernel_rfl)) rfl ?_
      exact ⟨_, by rw [HP.out], by rw [HP.out]; exact R_put HO.out K6.out _ _, below_set (below_set HB.out (Nat.le_succ _)) (Nat.le_succ _)⟩

end Go.Proofs.Ytlelhmephibfjaa.T
