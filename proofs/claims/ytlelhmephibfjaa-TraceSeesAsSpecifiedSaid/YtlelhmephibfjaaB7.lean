/- Texts of this claim, laid together: H18, H17, TF43, TF44, TF45, TF11, H4, TF24, H5, S1. -/
import Derived.Test.YtlelhmephibfjaaB5
import Derived.Test.YtlelhmephibfjaaB3
import Derived.Test.YtlelhmephibfjaaB6
import Derived.Test.YtlelhmephibfjaaB1
import Derived.Test.YtlelhmephibfjaaB4

namespace Go.Proofs.Ytlelhmephibfjaa.T
set_option linter.unusedVariables false
set_option linter.unusedSimpArgs false
open Go.RowKit Go.Proofs.YtlelhmephibfjaaW.PrintWords Go.Proofs.YtlelhmephibfjaaW.PrintLast Go.Proofs.YtlelhmephibfjaaW.PrintMore

theorem spied_bad {bad : Int} {caps : List S71} (h : spiedS bad caps = 0) : 0 ≤ bad ∧ bad ≤ 4095 := by
  unfold spiedS at h
  by_cases hw : wi bad 0 4095 = false
  · rw [if_pos hw] at h; cases h
  · simp only [wi, Bool.not_eq_false, decide_eq_true_eq] at hw; exact hw
theorem spied_len {bad : Int} {caps : List S71} (h : spiedS bad caps = 0) : caps.length ≤ 500 := by
  unfold spiedS at h
  split at h
  · cases h
  split at h
  · cases h
  · omega
set_option maxHeartbeats 8000000 in
set_option maxRecDepth 100000 in
theorem spied_any (bad : Int) (A : Option Addr) (c : Nat) (l : List S71) (w : World) (hr : Kd.C k71 w A l.length l) :
    Calls Try.prog 69 #[.agg #[.int .i64 bad, .slice A l.length c]] w fun e w' => e = .returned (.int .i64 (spiedS bad l)) ∧ Below w.heap.size w w' := by
  have HR := Aside0.mk hr
  clear hr
  go_enter Try.func69, Try.ntmps69
  go_wp2_with fail
  refine (trace_within.calls bad 0 4095 _ _ (wi_t _ _ _)).mono ?_
  rintro e w1 ⟨rfl, hb⟩
  have K := Aside0.mk (blk_below (blk_new w (.cells #[.int .i64 bad, .slice A l.length c] 48)) hb.below)
  have HB : Aside0 (Below w.heap.size w w1) := ⟨below_step (by (repeat (first | with_reducible exact (Below.refl _ _) | with_reducible exact Below.refl _ _ | with_reducible refine below_drew ?_ | with_reducible refine pw_below_drewN ?_ _ | with_reducible refine below_alloc ?_ _))) hb.below⟩
  clear hb
  cases h0 : wi bad 0 4095 with
  | false =>
    have hs : spiedS bad l = 1 := by unfold spiedS; rw [if_pos h0]
    have HS := Aside0.mk hs
    clear hs
    go_wp2
    go_ret
    exact ⟨by rw [HS.out]; rfl, HB.out⟩
  | true =>
    have hs : spiedS bad l = if l.length > 500 then 2 else if l.any badcap = true then 3 else 0 := by unfold spiedS; rw [if_neg (by rw [h0]; simp)]
    have hk := blk_cell K.out
    by_cases h5 : l.length > 500
    · rw [if_pos h5] at hs
      have HS := Aside0.mk hs
      have g1 : decide ((500 : Int) < (l.length : Int)) = true := by simp; omega
      have g2 : decide (500 < l.length) = true := by simp; omega
      clear hs
      go_wp2
      go_ret
      exact ⟨by rw [HS.out]; rfl, HB.out⟩
    · rw [if_neg h5] at hs
      have HS := Aside0.mk hs
      have g1 : decide ((500 : Int) < (l.length : Int)) = false := by simp; omega
      have g2 : decide (500 < l.length) = false := by simp; omega
      clear hs
      go_wp2_with fail
      clear hk
      refine (con71_calls 92 #[] badcap A l c w1 (Kd.C_below HR.out HB.out) (by omega) (fun _ _ => rfl) ?_).mono ?_
      · intro x w' _ _
        exact spied1_calls x w'
      · rintro e w2 ⟨rfl, hb⟩
        have HB2 := Aside0.mk (below_step HB.out hb)
        clear hb
        cases h3 : l.any badcap with
        | false =>
          have hs : spiedS bad l = 0 := by rw [HS.out, if_neg (by rw [h3]; simp)]
          have HS2 := Aside0.mk hs
          clear hs
          go_wp2
          go_ret
          exact ⟨by rw [HS2.out]; rfl, HB2.out⟩
        | true =>
          have hs : spiedS bad l = 3 := by rw [HS.out, if_pos h3]
          have HS2 := Aside0.mk hs
          clear hs
          go_wp2
          go_ret
          exact ⟨by rw [HS2.out]; rfl, HB2.out⟩
def HasS (l : List S25) (bad : Int) (caps : List S71) : List Int × Int :=
  if checkS l ≠ 0 then ([], checkS l) else if spiedS bad caps ≠ 0 then ([], spiedS bad caps) else ((l.filter (fun a => seesS bad caps a)).map (·.f0), 0)

set_option maxRecDepth 100000 in
set_option maxHeartbeats 8000000 in
theorem has_calls (A : Option Addr) (c : Nat) (l : List S25) (bad : Int) (Ac : Option Addr) (cc : Nat) (caps : List S71) (w : World) (hr : Kd.C k25 w A l.length l) (hc : l.length ≤ c) (hl : l.length ≤ 1000) (hof : ∀ x ∈ l, x.f3.length ≤ 1000)
    (hcap : Kd.C k71 w Ac caps.length caps) :
    Calls Try.prog 33 #[.slice A l.length c, .agg #[.int .i64 bad, .slice Ac caps.length cc]] w fun e w' => ∃ v, e = .returned (.tuple #[v, .int .i64 (HasS l bad caps).2]) ∧ Kd.R (Kd.int .i64) 3 w' w.heap.size (fun _ => True) v (HasS l bad caps).1 ∧ Below w.heap.size w w' := by
  have hu25 := Try.underlying25
  have hu48 := Try.underlying48
  have HR := Aside0.mk hr
  have HOF := Aside0.mk hof
  have HCAP := Aside0.mk hcap
  clear hr hof hcap
  go_enter Try.func33, Try.ntmps33
  go_wp2_with fail
  refine (check_calls A l c _ (Kd.C_alloc HR.out _) hc hl HOF.out).mono ?_
  rintro e w1 ⟨rfl, hb⟩
  have K3 := Aside0.mk (blk_below (blk_new w (.cells #[.int .i64 bad, .slice Ac caps.length cc] 48)) hb)
  have HB : Aside0 (Below w.heap.size w w1) := ⟨below_step (below_alloc (Below.refl _ _) _) hb⟩
  clear hb
  by_cases h0 : checkS l = 0
  case neg =>
    have HP := Aside0.mk (show HasS l bad caps = ([], checkS l) by unfold HasS; rw [if_pos h0])
    have g0 : (checkS l != 0) = true := by simpa using h0
    generalize checkS l = q at *
    clear h0
    go_wp2
    go_ret2
    exact ⟨_, by rw [HP.out]; rfl, by rw [HP.out]; exact Kd.R_nil _ _ _ _ _, HB.out⟩
  have HK := Aside0.mk h0
  rw [h0]
  clear h0
  have k3 := blk_cell K3.out
  go_wp2_with fail
  clear k3
  refine (spied_any bad Ac cc caps _ (Kd.C_below HCAP.out HB.out)).mono ?_
  rintro e w2 ⟨rfl, hb⟩
  replace HB := Aside0.mk (below_step HB.out hb)
  replace K3 := Aside0.mk (blk_below K3.out hb)
  clear hb
  by_cases h0 : spiedS bad caps = 0
  case neg =>
    have HP := Aside0.mk (show HasS l bad caps = ([], spiedS bad caps) by unfold HasS; rw [if_neg (by simpa using HK.out), if_pos h0])
    have g0 : (spiedS bad caps != 0) = true := by simpa using h0
    generalize spiedS bad caps = q at *
    clear h0
    go_wp2
    go_ret2
    exact ⟨_, by rw [HP.out]; rfl, by rw [HP.out]; exact Kd.R_nil _ _ _ _ _, HB.out⟩
  have HP := Aside0.mk (show HasS l bad caps = ((l.filter (fun a => seesS bad caps a)).map (·.f0), 0) by unfold HasS; rw [if_neg (by simpa using HK.out), if_neg (by simpa using h0)])
  have HBB := Aside0.mk (spied_bad h0)
  have hcl := spied_len h0
  rw [h0]
  clear h0
  go_wp2
  go_loopw [8, 23] (fun v8 v23 wr => ∃ j : Nat, v23 = .int .i64 j ∧ j ≤ l.length ∧ Aside0 (Kd.R (Kd.int .i64) 3 wr w.heap.size (fun _ => True) v8 (((l.take j).filter (fun a => seesS bad caps a)).map (·.f0))) ∧ Aside0 (wr.heap[w.heap.size]? = some (.cells #[.int .i64 bad, .slice Ac caps.length cc] 48 (0, 0))) ∧ Aside0 (Below w.heap.size w wr)) (fun _ v _ => l.length - (intOf v).toNat)
  case atStart => exact ⟨0, rfl, by omega, ⟨Kd.R_nil _ _ _ _ _⟩, K3, HB⟩
  case round =>
    clear K3 HB
    obtain ⟨j, rfl, hj, HO, K3, HB⟩ := hrel
    by_cases hlt : j < l.length
    · have hb4 := where_bd HK.out (List.getElem_mem hlt)
      have ht : l.take (j + 1) = l.take j ++ [l[j]] := by rw [List.take_succ_eq_append_getElem hlt]
      have HX1 : Aside0 (seesS bad caps l[j] = true → ((l.take (j + 1)).filter (fun a => seesS bad caps a)).map (·.f0) = ((l.take j).filter (fun a => seesS bad caps a)).map (·.f0) ++ [l[j].f0]) := ⟨fun h => by rw [ht, List.filter_append, List.map_append]; congr 1; simp only [List.filter_cons, h, if_true, List.filter_nil, List.map_cons, List.map_nil]⟩
      have HX0 : Aside0 (seesS bad caps l[j] = false → ((l.take (j + 1)).filter (fun a => seesS bad caps a)).map (·.f0) = ((l.take j).filter (fun a => seesS bad caps a)).map (·.f0)) := ⟨fun h => by rw [ht, List.filter_append]; simp [h]⟩
      have LX : (((l.take j).filter (fun a => seesS bad caps a)).map (·.f0)).length ≤ 1000 := by rw [List.length_map]; exact Nat.le_trans (List.length_filter_le _ _) (by rw [List.length_take]; omega)
      obtain ⟨ad, A3, c3, e1, x0, x1, x2, x3, x4, x5, x6, x7, x8, x9, hl3, hi3⟩ := at_T25 (Kd.C_below HR.out HB.out) (j : Int) (by omega) (by omega)
      subst e1
      rw [rd25_get l j hlt] at hl3 hi3
      rw [rd25_get l j hlt, Int.toNat_natCast] at x0 x1 x2 x3 x4 x5 x6 x7 x8 x9
      clear ht
      generalize ((l.take j).filter (fun a => seesS bad caps a)).map (·.f0) = xs at *
      generalize hxe : ((l.take (j + 1)).filter (fun a => seesS bad caps a)).map (·.f0) = xs' at *
      have HXe := Aside0.mk hxe
      clear hxe
      generalize l[j] = a at *
      have HI3 := Aside0.mk hi3
      have k3 := blk_cell (blk_alloc K3.out (.cells #[.int .i64 a.f0, .int .i64 a.f1, .int .i64 a.f2, .slice A3 a.f3.length c3, .int .i64 a.f4, .int .i64 a.f5, .int .i64 a.f6, .int .i64 a.f7, .int .i64 a.f8, .int .i64 a.f9] 25))
      clear hi3
      go_wp2_with fail
      clear k3 x0 x1 x2 x3 x4 x5 x6 x7 x8 x9
      refine (sees_calls bad Ac cc caps a A3 c3 _ (Kd.C_alloc (Kd.C_below HCAP.out HB.out) _) (by omega) (Kd.C_alloc HI3.out _) hl3 hb4.1 hb4.2 HBB.out.1 HBB.out.2).mono ?_
      rintro e w4 ⟨rfl, hb⟩
      have K10 := Aside0.mk (blk_below (blk_new wr (.cells #[.int .i64 a.f0, .int .i64 a.f1, .int .i64 a.f2, .slice A3 a.f3.length c3, .int .i64 a.f4, .int .i64 a.f5, .int .i64 a.f6, .int .i64 a.f7, .int .i64 a.f8, .int .i64 a.f9] 25)) hb)
      replace HB := Aside0.mk (below_step (below_alloc HB.out _) hb)
      replace K3 := Aside0.mk (blk_below (blk_alloc K3.out _) hb)
      replace HO := Aside0.mk (Kd.R_below (Kd.R_alloc HO.out _) hb)
      clear hb HI3 hl3
      cases hse : seesS bad caps a with
      | false =>
        have e := HX0.out hse
        subst e
        clear hse HX1 HX0 K10
        go_wp2
        go_roundw
        case rel => exact ⟨j + 1, by go_num, by omega, by rw [HXe.out]; exact HO, K3, HB⟩
        case measure => simp [intOf]; omega
      | true =>
        have e := HX1.out hse
        subst e
        clear hse HX1 HX0
        have k10 := blk_cell K10.out
        go_wp2_with ((with_reducible refine gate_builtin (b := .append) (xs := #[.tmp 30, .tmp 33]) rfl ?_); at_builtin; refine Kd.R_append (Kd.int .i64) (w0 := w) w.heap.size rfl (.tmp 30) (.tmp 33) 23 3 (.int .i64 0) 8 rfl Try.underlying23 info3 rfl (by decide) (by omega) u8 xs a.f0 [.int .i64 a.f0] (fun _ => True) (fun _ => False) rfl rfl rfl (fun _ hk => hk.elim) (fun _ _ => trivial) HO.out ?aB ?aS ?aL ?_; (case aB => exact HB.out); (case aS => exact HB.out.size); (case aL => omega); intro v1 w5 ho hb hg hat; have K3' := Aside0.mk (blk_grown K3.out hg (Kd.R_ne HO.out K3.out (by decide))); clear K3 HO HB k10 K10; have HO := Aside0.mk ho; have HB := Aside0.mk hb; clear ho hb hg hat)
        go_roundw
        case rel => exact ⟨j + 1, by go_num, by omega, by rw [HXe.out]; exact HO, K3', HB⟩
        case measure => simp [intOf]; omega
    · have e0 : l.take j = l := List.take_of_length_le (by omega)
      rw [e0] at HO
      clear e0
      go_wp2
      go_ret2
      exact ⟨_, by rw [HP.out]; rfl, by rw [HP.out]; exact HO.out, HB.out⟩
end Go.Proofs.Ytlelhmephibfjaa.T

namespace Go.Proofs.Ytlelhmephibfjaa.T
set_option linter.unusedVariables false
set_option linter.unusedSimpArgs false
open Go.RowKit Go.Proofs.YtlelhmephibfjaaW.PrintWords Go.Proofs.YtlelhmephibfjaaW.PrintLast Go.Proofs.YtlelhmephibfjaaW.PrintMore

set_option maxRecDepth 100000 in
set_option maxHeartbeats 8000000 in
theorem told_long (A : Option Addr) (c : Nat) (l : List S25) (o need bad : Int) (Ac : Option Addr) (cc : Nat) (caps : List S71) (w : World) (hr : Kd.C k25 w A l.length l) (hc : l.length ≤ c) (hl : l.length ≤ 1000) (hof : ∀ x ∈ l, x.f3.length ≤ 1000)
    (hcap : Kd.C k71 w Ac caps.length caps) (hlc : 500 < caps.length) :
    Calls Try.prog 35 #[.slice A l.length c, .int .i64 o, .int .i64 need, .agg #[.int .i64 bad, .slice Ac caps.length cc]] w fun e w' => e = .returned (.tuple #[.bool (ToldS l o need bad caps).1, .int .i64 (ToldS l o need bad caps).2]) ∧ Below w.heap.size w w' := by
  have hu25 := Try.underlying25
  have HR := Aside0.mk hr
  have HOF := Aside0.mk hof
  have HCAP := Aside0.mk hcap
  have HASK := Aside0.mk (asked_t l o need 1 12 hl hof)
  clear hr hof hcap
  refine (callsIn_wide (n := 3)).1 ?_
  refine callsIn_of_wp_marks Try.func35 rfl trivial ?_ rfl
  simp only [Try.ntmps35, List.size_toArray, List.length_cons, List.length_nil, Nat.reduceAdd, Nat.reduceSub, Array.replicate_succ, Array.replicate_zero, List.push_toArray, List.append_toArray, List.nil_append, List.cons_append]
  gi_wp2_with fail
  refine ⟨trivial, (callsIn_wide.2 (trace_asked.calls A c l o need 1 12 _ _ (Kd.C_alloc (Kd.C_alloc (Kd.C_alloc HR.out _) _) _) hc HASK.out)).mono ?_⟩
  rintro e w1 ⟨rfl, hb⟩
  have K7 := Aside0.mk (blk_below (blk_alloc (blk_alloc (blk_new w (.cells #[.int .i64 bad, .slice Ac caps.length cc] 48)) (.cells #[.bool false] 4)) (.cells #[.int .i64 0] 29)) hb)
  have K8 := Aside0.mk (blk_below (blk_alloc (blk_new (w.alloc (.cells #[.int .i64 bad, .slice Ac caps.length cc] 48)) (.cells #[.bool false] 4)) (.cells #[.int .i64 0] 29)) hb)
  have K9 := Aside0.mk (blk_below (blk_new ((w.alloc (.cells #[.int .i64 bad, .slice Ac caps.length cc] 48)).alloc (.cells #[.bool false] 4)) (.cells #[.int .i64 0] 29)) hb)
  rw [World.size_alloc] at K8
  rw [World.size_alloc, World.size_alloc] at K9
  have HB1 : Aside0 (Below w.heap.size w w1) := ⟨below_step (below_alloc (below_alloc (below_alloc (Below.refl _ _) _) _) _) hb⟩
  clear hb HASK
  by_cases h0 : askedS l o need 1 12 = 0
  · have HP := Aside0.mk (show ToldS l o need bad caps = if spiedS bad caps ≠ 0 then (false, spiedS bad caps) else (toldB ((ofS o l).filter (fun a => seesS bad caps a)) need, 0) by unfold ToldS; rw [if_neg (by simpa using h0)])
    have HOK := Aside0.mk (asked_ok h0)
    rw [h0]
    clear h0
    have k7 := blk_cell K7.out
    gi_wp2_with fail
    clear k7
    refine ⟨trivial, (callsIn_wide.2 (spied_any bad Ac cc caps _ (Kd.C_below HCAP.out HB1.out))).mono ?_⟩
    rintro e w2 ⟨rfl, hb⟩
    replace K7 := Aside0.mk (blk_below K7.out hb)
    replace K8 := Aside0.mk (blk_below K8.out hb)
    replace K9 := Aside0.mk (blk_below K9.out hb)
    have HB2 := Aside0.mk (below_step HB1.out hb)
    clear hb HB1
    by_cases hs0 : spiedS bad caps = 0
    · exact absurd (spied_len hs0) (by omega)
    · have HP2 := Aside0.mk (show ToldS l o need bad caps = (false, spiedS bad caps) by rw [HP.out, if_pos hs0])
      have g0 : (spiedS bad caps != 0) = true := by simpa using hs0
      generalize spiedS bad caps = q at *
      have k8 := blk_cell K8.out 0
      have k9 := blk_cell K9.out 0
      have f8 := blk_frozen K8.out 0
      have f9 := blk_frozen K9.out 0
      have N8 := Aside0.mk (blk_far (blk_set K8.out 0 (.bool false)) (p := ⟨w.heap.size + 1 + 1, 0, none⟩) (by simp) (.int .i64 q))
      have N9 := Aside0.mk (blk_set (blk_far K9.out (p := ⟨w.heap.size + 1, 0, none⟩) (by simp) (.bool false)) 0 (.int .i64 q))
      clear hs0
      gi_wp2
      exact ⟨_, results_told _ _ _ _ _ _ rfl rfl (blk_cell N8.out 0) (blk_cell N9.out 0), by rw [HP2.out]; rfl, (HB2.out.setCell (p := ⟨w.heap.size + 1, 0, none⟩) (by simp) _).setCell (p := ⟨w.heap.size + 1 + 1, 0, none⟩) (by simp; omega) _⟩
  · have HP := Aside0.mk (show ToldS l o need bad caps = (false, askedS l o need 1 12) by unfold ToldS; rw [if_pos h0])
    have g0 : (askedS l o need 1 12 != 0) = true := by simpa using h0
    generalize askedS l o need 1 12 = q at *
    have k8 := blk_cell K8.out 0
    have k9 := blk_cell K9.out 0
    have f8 := blk_frozen K8.out 0
    have f9 := blk_frozen K9.out 0
    have N8 := Aside0.mk (blk_far (blk_set K8.out 0 (.bool false)) (p := ⟨w.heap.size + 1 + 1, 0, none⟩) (by simp) (.int .i64 q))
    have N9 := Aside0.mk (blk_set (blk_far K9.out (p := ⟨w.heap.size + 1, 0, none⟩) (by simp) (.bool false)) 0 (.int .i64 q))
    clear h0
    gi_wp2
    exact ⟨_, results_told _ _ _ _ _ _ rfl rfl (blk_cell N8.out 0) (blk_cell N9.out 0), by rw [HP.out]; rfl, (HB1.out.setCell (p := ⟨w.heap.size + 1, 0, none⟩) (by simp) _).setCell (p := ⟨w.heap.size + 1 + 1, 0, none⟩) (by simp; omega) _⟩
theorem told_any (A : Option Addr) (c : Nat) (l : List S25) (o need bad : Int) (Ac : Option Addr) (cc : Nat) (caps : List S71) (w : World) (hr : Kd.C k25 w A l.length l) (hc : l.length ≤ c) (hl : l.length ≤ 1000) (hof : ∀ x ∈ l, x.f3.length ≤ 1000)
    (hcap : Kd.C k71 w Ac caps.length caps) :
    Calls Try.prog 35 #[.slice A l.length c, .int .i64 o, .int .i64 need, .agg #[.int .i64 bad, .slice Ac caps.length cc]] w fun e w' => e = .returned (.tuple #[.bool (ToldS l o need bad caps).1, .int .i64 (ToldS l o need bad caps).2]) ∧ Below w.heap.size w w' := by
  by_cases h : 500 < caps.length
  · exact told_long A c l o need bad Ac cc caps w hr hc hl hof hcap h
  · exact told_calls A c l o need bad Ac cc caps w hr hc hl hof hcap (by omega)
end Go.Proofs.Ytlelhmephibfjaa.T

namespace Go.Proofs.Ytlelhmephibfjaa.T
open Go.RowKit Go.Proofs.YtlelhmephibfjaaW.PrintWords Go.Proofs.YtlelhmephibfjaaW.PrintLast Go.Proofs.YtlelhmephibfjaaW.PrintMore
attribute [local go_sem] max2_int min2_int max_two min_two max_three min_three max_four min_four   -- for this text's walks alone
set_option linter.unusedVariables false
set_option linter.unusedSimpArgs false

/-! ### quietuslaw38_example: function 43 -/
def quietuslaw38_example.f  : Option ((List (S25))) := some (([(⟨1, 1, 7, ([] : List Int), 0, (-1), 10, 12, (-1), 0⟩ : S25), (⟨2, 2, 7, (([1] : List Int)), 1, 0, 11, 1000001, (-1), 0⟩ : S25), (⟨3, 2, 7, (([2] : List Int)), 2, 0, 20, 30, (-1), 0⟩ : S25), (⟨4, 3, 7, ([] : List Int), 0, 0, 10, 1000001, 0, 0⟩ : S25), (⟨5, 3, 7, ([] : List Int), 1, 0, 10, 25, 1, 0⟩ : S25), (⟨6, 4, 7, (([2] : List Int)), 3, 0, 11, 1000001, (-1), 0⟩ : S25)] : List (S25)))
set_option maxHeartbeats 8000000 in
set_option maxRecDepth 100000 in
theorem quietuslaw38_example.calls  (r : List (S25)) (w : World) (h : quietuslaw38_example.f  = some r) :
    Calls Try.prog 43 #[] w fun e w' => ∃ v0_ : Value, e = .returned (v0_) ∧ Kd.N k25 25 w' w.heap.size (fun k_ => (w.heap.size ≤ k_)) v0_ r ∧ Below w.heap.size w w' := by
  have hu25 := Try.underlying25
  have HB := Aside0.mk (Below.refl w.heap.size w)
  have H : (some (([(⟨1, 1, 7, ([] : List Int), 0, (-1), 10, 12, (-1), 0⟩ : S25), (⟨2, 2, 7, (([1] : List Int)), 1, 0, 11, 1000001, (-1), 0⟩ : S25), (⟨3, 2, 7, (([2] : List Int)), 2, 0, 20, 30, (-1), 0⟩ : S25), (⟨4, 3, 7, ([] : List Int), 0, 0, 10, 1000001, 0, 0⟩ : S25), (⟨5, 3, 7, ([] : List Int), 1, 0, 10, 25, 1, 0⟩ : S25), (⟨6, 4, 7, (([2] : List Int)), 3, 0, 11, 1000001, (-1), 0⟩ : S25)] : List (S25)))) = some r := h
  clear h
  obtain ⟨y155, hy155⟩ : ∃ y_ : List Int, y_ = (([1] : List Int)) := ⟨_, rfl⟩
  replace H : (some (([(⟨1, 1, 7, ([] : List Int), 0, (-1), 10, 12, (-1), 0⟩ : S25), (⟨2, 2, 7, y155, 1, 0, 11, 1000001, (-1), 0⟩ : S25), (⟨3, 2, 7, (([2] : List Int)), 2, 0, 20, 30, (-1), 0⟩ : S25), (⟨4, 3, 7, ([] : List Int), 0, 0, 10, 1000001, 0, 0⟩ : S25), (⟨5, 3, 7, ([] : List Int), 1, 0, 10, 25, 1, 0⟩ : S25), (⟨6, 4, 7, (([2] : List Int)), 3, 0, 11, 1000001, (-1), 0⟩ : S25)] : List (S25)))) = some r := by first | (rw [hy155]; with_reducible exact H) | (have H2_ := (Option.bind_some _ _).symm.trans H; rw [hy155]; with_reducible exact H2_) | (have H2_ := (Option.bind_some _ _).symm.trans H; with_reducible exact H2_) | with_reducible exact H | (rw [hy155]; exact H) | exact H
  have Ny155 := Aside0.mk hy155
  clear hy155
  obtain ⟨y158, hy158⟩ : ∃ y_ : List Int, y_ = (([2] : List Int)) := ⟨_, rfl⟩
  replace H : (some (([(⟨1, 1, 7, ([] : List Int), 0, (-1), 10, 12, (-1), 0⟩ : S25), (⟨2, 2, 7, y155, 1, 0, 11, 1000001, (-1), 0⟩ : S25), (⟨3, 2, 7, y158, 2, 0, 20, 30, (-1), 0⟩ : S25), (⟨4, 3, 7, ([] : List Int), 0, 0, 10, 1000001, 0, 0⟩ : S25), (⟨5, 3, 7, ([] : List Int), 1, 0, 10, 25, 1, 0⟩ : S25), (⟨6, 4, 7, (([2] : List Int)), 3, 0, 11, 1000001, (-1), 0⟩ : S25)] : List (S25)))) = some r := by first | (rw [hy158]; with_reducible exact H) | (have H2_ := (Option.bind_some _ _).symm.trans H; rw [hy158]; with_reducible exact H2_) | (have H2_ := (Option.bind_some _ _).symm.trans H; with_reducible exact H2_) | with_reducible exact H | (rw [hy158]; exact H) | exact H
  have Ny158 := Aside0.mk hy158
  clear hy158
  obtain ⟨y161, hy161⟩ : ∃ y_ : List Int, y_ = (([2] : List Int)) := ⟨_, rfl⟩
  replace H : (some (([(⟨1, 1, 7, ([] : List Int), 0, (-1), 10, 12, (-1), 0⟩ : S25), (⟨2, 2, 7, y155, 1, 0, 11, 1000001, (-1), 0⟩ : S25), (⟨3, 2, 7, y158, 2, 0, 20, 30, (-1), 0⟩ : S25), (⟨4, 3, 7, ([] : List Int), 0, 0, 10, 1000001, 0, 0⟩ : S25), (⟨5, 3, 7, ([] : List Int), 1, 0, 10, 25, 1, 0⟩ : S25), (⟨6, 4, 7, y161, 3, 0, 11, 1000001, (-1), 0⟩ : S25)] : List (S25)))) = some r := by first | (rw [hy161]; with_reducible exact H) | (have H2_ := (Option.bind_some _ _).symm.trans H; rw [hy161]; with_reducible exact H2_) | (have H2_ := (Option.bind_some _ _).symm.trans H; with_reducible exact H2_) | with_reducible exact H | (rw [hy161]; exact H) | exact H
  have Ny161 := Aside0.mk hy161
  clear hy161
  obtain ⟨y164, hy164⟩ : ∃ y_ : List (S25), y_ = (([(⟨1, 1, 7, ([] : List Int), 0, (-1), 10, 12, (-1), 0⟩ : S25), (⟨2, 2, 7, y155, 1, 0, 11, 1000001, (-1), 0⟩ : S25), (⟨3, 2, 7, y158, 2, 0, 20, 30, (-1), 0⟩ : S25), (⟨4, 3, 7, ([] : List Int), 0, 0, 10, 1000001, 0, 0⟩ : S25), (⟨5, 3, 7, ([] : List Int), 1, 0, 10, 25, 1, 0⟩ : S25), (⟨6, 4, 7, y161, 3, 0, 11, 1000001, (-1), 0⟩ : S25)] : List (S25))) := ⟨_, rfl⟩
  replace H : (some y164) = some r := by first | (rw [hy164]; with_reducible exact H) | (have H2_ := (Option.bind_some _ _).symm.trans H; rw [hy164]; with_reducible exact H2_) | (have H2_ := (Option.bind_some _ _).symm.trans H; with_reducible exact H2_) | with_reducible exact H | (rw [hy164]; exact H) | exact H
  have Ny164 := Aside0.mk hy164
  clear hy164
  obtain rfl := Option.some.inj H
  go_enter Try.func43, Try.ntmps43
  go_wp2_with (first | ((with_reducible refine gate_dst (N := 2) rfl ?_); refine Kd.R_lit (Kd.int .i64) _ 3 ?hg (N := 2) ?hd (xs := ([1] : List Int)) (inner := [.int .i64 1]) (ok := fun _ => True) (okp := fun _ => True) ?hr ?hp (fun _ hk => hk) trivial (Below.refl _ _) (Nat.le_refl _) (by simp) ?_; (case hd => rfl); (case hg => rfl); (case hr => first | (go_simp; done) | (go_simp; rfl)); (case hp => exact (Reps.one (show Kd.M (Kd.int .i64) _ _ _ 1 [.int .i64 1] from rfl) (Reps.none _ _))); intro v156 w1 ho2 hb hg_ hnew_; clear hg_ hnew_; (first | rw [← Ny155.out] at ho2 | (simp only [Int.reduceToNat] at ho2; rw [← Ny155.out] at ho2)); have n0_ := Aside0.mk (Kd.R_lower (Kd.R_newM (M := fun k_ => (w.heap.size ≤ k_)) ho2 (below_size (by repeat (first | (with_reducible first | exact HB.out | apply below_alloc | apply pw_below_drewN | apply below_drew1) | exact HB.out))) (fun k_ h_ => h_)) (below_size (by repeat (first | (with_reducible first | exact HB.out | apply below_alloc | apply pw_below_drewN | apply below_drew1) | exact HB.out)))); have n1_ := Aside0.mk (below_step (by repeat (first | (with_reducible first | exact HB.out | apply below_alloc | apply pw_below_drewN | apply below_drew1) | exact HB.out)) hb); clear HB; have HO157 := n0_; have HB := n1_; clear n0_ n1_; clear hb ho2; obtain ⟨Ao3, co3, eo3⟩ := Kd.R_slice HO157.out; subst eo3) | ((with_reducible refine gate_dst (N := 4) rfl ?_); refine Kd.R_lit (Kd.int .i64) _ 3 ?hg (N := 4) ?hd (xs := ([2] : List Int)) (inner := [.int .i64 2]) (ok := fun _ => True) (okp := fun _ => True) ?hr ?hp (fun _ hk => hk) trivial (Below.refl _ _) (Nat.le_refl _) (by simp) ?_; (case hd => rfl); (case hg => rfl); (case hr => first | (go_simp; done) | (go_simp; rfl)); (case hp => exact (Reps.one (show Kd.M (Kd.int .i64) _ _ _ 2 [.int .i64 2] from rfl) (Reps.none _ _))); intro v159 w4 ho5 hb hg_ hnew_; clear hg_ hnew_; (first | rw [← Ny158.out] at ho5 | (simp only [Int.reduceToNat] at ho5; rw [← Ny158.out] at ho5)); have n0_ := Aside0.mk (Kd.R_elder' (by (with_reducible repeat (first | apply Kd.R_alloc | apply Kd.R_drewN | apply Kd.R_drew)); exact HO157.out) (Kd.R_base ho5) hb); have n1_ := Aside0.mk (Kd.R_lower (Kd.R_new' (Kd.R_newM (M := fun k_ => (w.heap.size ≤ k_)) ho5 (below_size (by repeat (first | (with_reducible first | exact HB.out | apply below_alloc | apply pw_below_drewN | apply below_drew1) | exact HB.out))) (fun k_ h_ => h_)) (Kd.R_lt (by (with_reducible repeat (first | apply Kd.R_alloc | apply Kd.R_drewN | apply Kd.R_drew)); exact HO157.out))) (below_size (by repeat (first | (with_reducible first | exact HB.out | apply below_alloc | apply pw_below_drewN | apply below_drew1) | exact HB.out)))); have n2_ := Aside0.mk (below_step (by repeat (first | (with_reducible first | exact HB.out | apply below_alloc | apply pw_below_drewN | apply below_drew1) | exact HB.out)) hb); clear HO157; clear HB; have HO157 := n0_; have HO160 := n1_; have HB := n2_; clear n0_ n1_ n2_; clear hb ho5; obtain ⟨Ao6, co6, eo6⟩ := Kd.R_slice HO160.out; subst eo6) | ((with_reducible refine gate_dst (N := 8) rfl ?_); refine Kd.R_lit (Kd.int .i64) _ 3 ?hg (N := 8) ?hd (xs := ([2] : List Int)) (inner := [.int .i64 2]) (ok := fun _ => True) (okp := fun _ => True) ?hr ?hp (fun _ hk => hk) trivial (Below.refl _ _) (Nat.le_refl _) (by simp) ?_; (case hd => rfl); (case hg => rfl); (case hr => first | (go_simp; done) | (go_simp; rfl)); (case hp => exact (Reps.one (show Kd.M (Kd.int .i64) _ _ _ 2 [.int .i64 2] from rfl) (Reps.none _ _))); intro v162 w7 ho8 hb hg_ hnew_; clear hg_ hnew_; (first | rw [← Ny161.out] at ho8 | (simp only [Int.reduceToNat] at ho8; rw [← Ny161.out] at ho8)); have n0_ := Aside0.mk (Kd.R_elder' (by (with_reducible repeat (first | apply Kd.R_alloc | apply Kd.R_drewN | apply Kd.R_drew)); exact HO157.out) (Kd.R_base ho8) hb); have n1_ := Aside0.mk (Kd.R_elder' (by (with_reducible repeat (first | apply Kd.R_alloc | apply Kd.R_drewN | apply Kd.R_drew)); exact HO160.out) (Kd.R_base ho8) hb); have n2_ := Aside0.mk (Kd.R_lower (Kd.R_new' (Kd.R_new' (Kd.R_newM (M := fun k_ => (w.heap.size ≤ k_)) ho8 (below_size (by repeat (first | (with_reducible first | exact HB.out | apply below_alloc | apply pw_below_drewN | apply below_drew1) | exact HB.out))) (fun k_ h_ => h_)) (Kd.R_lt (by (with_reducible repeat (first | apply Kd.R_alloc | apply Kd.R_drewN | apply Kd.R_drew)); exact HO157.out))) (Kd.R_lt (by (with_reducible repeat (first | apply Kd.R_alloc | apply Kd.R_drewN | apply Kd.R_drew)); exact HO160.out))) (below_size (by repeat (first | (with_reducible first | exact HB.out | apply below_alloc | apply pw_below_drewN | apply below_drew1) | exact HB.out)))); have n3_ := Aside0.mk (below_step (by repeat (first | (with_reducible first | exact HB.out | apply below_alloc | apply pw_below_drewN | apply below_drew1) | exact HB.out)) hb); clear HO157; clear HO160; clear HB; have HO157 := n0_; have HO160 := n1_; have HO163 := n2_; have HB := n3_; clear n0_ n1_ n2_ n3_; clear hb ho8; obtain ⟨Ao9, co9, eo9⟩ := Kd.R_slice HO163.out; subst eo9) | ((with_reducible refine gate_dst (N := 10) rfl ?_); refine Kd.N_lit k25 _ 25 ?hg (N' := 10) ?hd (xs := ([(⟨1, 1, 7, ([] : List Int), 0, (-1), 10, 12, (-1), 0⟩ : S25), (⟨2, 2, 7, y155, 1, 0, 11, 1000001, (-1), 0⟩ : S25), (⟨3, 2, 7, y158, 2, 0, 20, 30, (-1), 0⟩ : S25), (⟨4, 3, 7, ([] : List Int), 0, 0, 10, 1000001, 0, 0⟩ : S25), (⟨5, 3, 7, ([] : List Int), 1, 0, 10, 25, 1, 0⟩ : S25), (⟨6, 4, 7, y161, 3, 0, 11, 1000001, (-1), 0⟩ : S25)] : List (S25))) (inner := [.int .i64 1, .int .i64 1, .int .i64 7, .slice none 0 0, .int .i64 0, .int .i64 (-1), .int .i64 10, .int .i64 12, .int .i64 (-1), .int .i64 0, .int .i64 2, .int .i64 2, .int .i64 7, .slice Ao3 y155.length co3, .int .i64 1, .int .i64 0, .int .i64 11, .int .i64 1000001, .int .i64 (-1), .int .i64 0, .int .i64 3, .int .i64 2, .int .i64 7, .slice Ao6 y158.length co6, .int .i64 2, .int .i64 0, .int .i64 20, .int .i64 30, .int .i64 (-1), .int .i64 0, .int .i64 4, .int .i64 3, .int .i64 7, .slice none 0 0, .int .i64 0, .int .i64 0, .int .i64 10, .int .i64 1000001, .int .i64 0, .int .i64 0, .int .i64 5, .int .i64 3, .int .i64 7, .slice none 0 0, .int .i64 1, .int .i64 0, .int .i64 10, .int .i64 25, .int .i64 1, .int .i64 0, .int .i64 6, .int .i64 4, .int .i64 7, .slice Ao9 y161.length co9, .int .i64 3, .int .i64 0, .int .i64 11, .int .i64 1000001, .int .i64 (-1), .int .i64 0]) (ok := (fun k_ => (w.heap.size ≤ k_))) (okp := (fun k_ => (w.heap.size ≤ k_))) ?hr ?hp (fun _ hk => hk) ((show ∀ k_, w7.heap.size ≤ k_ → (fun k_ => (w.heap.size ≤ k_)) k_ from fun k_ hk => (Nat.le_trans (below_size (by repeat (first | (with_reducible first | exact HB.out | apply below_alloc | apply pw_below_drewN | apply below_drew1) | exact HB.out))) hk)) _ (Nat.le_refl _)) (Below.refl _ _) (Nat.le_refl _) (by simp) ?_; (case hd => rfl); (case hg => rfl); (case hr => first | (go_simp; done) | (go_simp; rfl)); (case hp => exact (Reps.c10 (show Kd.FK k25 _ _ (⟨1, 1, 7, ([] : List Int), 0, (-1), 10, 12, (-1), 0⟩ : S25) [.int .i64 1, .int .i64 1, .int .i64 7, .slice none 0 0, .int .i64 0, .int .i64 (-1), .int .i64 10, .int .i64 12, .int .i64 (-1), .int .i64 0] from (k25_mkF _ _ (⟨1, 1, 7, ([] : List Int), 0, (-1), 10, 12, (-1), 0⟩ : S25) (Nat.le_refl _) (Kd.F_nil _ _ _))) (Reps.c10 (show Kd.FK k25 _ _ (⟨2, 2, 7, y155, 1, 0, 11, 1000001, (-1), 0⟩ : S25) [.int .i64 2, .int .i64 2, .int .i64 7, .slice Ao3 y155.length co3, .int .i64 1, .int .i64 0, .int .i64 11, .int .i64 1000001, .int .i64 (-1), .int .i64 0] from (k25_mkF _ _ (⟨2, 2, 7, y155, 1, 0, 11, 1000001, (-1), 0⟩ : S25) (Kd.R_reads' (Kd.R_mono (ok' := (fun k_ => (w.heap.size ≤ k_))) (HO157.out) (fun k_ hk => hk.1.1.1))).2.1 (Kd.R_F (Kd.R_mono (ok' := (fun k_ => (w.heap.size ≤ k_))) (HO157.out) (fun k_ hk => hk.1.1.1))))) (Reps.c10 (show Kd.FK k25 _ _ (⟨3, 2, 7, y158, 2, 0, 20, 30, (-1), 0⟩ : S25) [.int .i64 3, .int .i64 2, .int .i64 7, .slice Ao6 y158.length co6, .int .i64 2, .int .i64 0, .int .i64 20, .int .i64 30, .int .i64 (-1), .int .i64 0] from (k25_mkF _ _ (⟨3, 2, 7, y158, 2, 0, 20, 30, (-1), 0⟩ : S25) (Kd.R_reads' (Kd.R_mono (ok' := (fun k_ => (w.heap.size ≤ k_))) (HO160.out) (fun k_ hk => hk.1.1.1))).2.1 (Kd.R_F (Kd.R_mono (ok' := (fun k_ => (w.heap.size ≤ k_))) (HO160.out) (fun k_ hk => hk.1.1.1))))) (Reps.c10 (show Kd.FK k25 _ _ (⟨4, 3, 7, ([] : List Int), 0, 0, 10, 1000001, 0, 0⟩ : S25) [.int .i64 4, .int .i64 3, .int .i64 7, .slice none 0 0, .int .i64 0, .int .i64 0, .int .i64 10, .int .i64 1000001, .int .i64 0, .int .i64 0] from (k25_mkF _ _ (⟨4, 3, 7, ([] : List Int), 0, 0, 10, 1000001, 0, 0⟩ : S25) (Nat.le_refl _) (Kd.F_nil _ _ _))) (Reps.c10 (show Kd.FK k25 _ _ (⟨5, 3, 7, ([] : List Int), 1, 0, 10, 25, 1, 0⟩ : S25) [.int .i64 5, .int .i64 3, .int .i64 7, .slice none 0 0, .int .i64 1, .int .i64 0, .int .i64 10, .int .i64 25, .int .i64 1, .int .i64 0] from (k25_mkF _ _ (⟨5, 3, 7, ([] : List Int), 1, 0, 10, 25, 1, 0⟩ : S25) (Nat.le_refl _) (Kd.F_nil _ _ _))) (Reps.c10 (show Kd.FK k25 _ _ (⟨6, 4, 7, y161, 3, 0, 11, 1000001, (-1), 0⟩ : S25) [.int .i64 6, .int .i64 4, .int .i64 7, .slice Ao9 y161.length co9, .int .i64 3, .int .i64 0, .int .i64 11, .int .i64 1000001, .int .i64 (-1), .int .i64 0] from (k25_mkF _ _ (⟨6, 4, 7, y161, 3, 0, 11, 1000001, (-1), 0⟩ : S25) (Kd.R_reads' (Kd.R_mono (ok' := (fun k_ => (w.heap.size ≤ k_))) (HO163.out) (fun k_ hk => hk.1.1.1))).2.1 (Kd.R_F (Kd.R_mono (ok' := (fun k_ => (w.heap.size ≤ k_))) (HO163.out) (fun k_ hk => hk.1.1.1))))) (Reps.none _ _)))))))); intro v165 w10 ho11 hb hg_ hnew_; clear hg_ hnew_; (first | rw [← Ny164.out] at ho11 | (simp only [Int.reduceToNat] at ho11; rw [← Ny164.out] at ho11)); have n0_ := Aside0.mk (Kd.N_lower ho11 (below_size (by repeat (first | (with_reducible first | exact HB.out | apply below_alloc | apply pw_below_drewN | apply below_drew1) | exact HB.out)))); have n1_ := Aside0.mk (below_step (by repeat (first | (with_reducible first | exact HB.out | apply below_alloc | apply pw_below_drewN | apply below_drew1) | exact HB.out)) hb); clear HB; clear HO157; clear HO160; clear HO163; have HO166 := n0_; have HB := n1_; clear n0_ n1_; clear hb ho11))
  go_ret
  exact ⟨_, by first | rfl | (simp [errW_none, errW_some] <;> rfl) | (simp [*, errW_none, errW_some] <;> rfl), by (with_reducible repeat (first | apply Kd.N_alloc | apply Kd.N_drewN | apply Kd.N_drew)); exact HO166.out, by repeat (first | (with_reducible first | exact HB.out | apply below_alloc | apply pw_below_drewN | apply below_drew1) | exact HB.out)⟩

end Go.Proofs.Ytlelhmephibfjaa.T

namespace Go.Proofs.Ytlelhmephibfjaa.T
open Go.RowKit Go.Proofs.YtlelhmephibfjaaW.PrintWords Go.Proofs.YtlelhmephibfjaaW.PrintLast Go.Proofs.YtlelhmephibfjaaW.PrintMore
attribute [local go_sem] max2_int min2_int max_two min_two max_three min_three max_four min_four   -- for this text's walks alone
set_option linter.unusedVariables false
set_option linter.unusedSimpArgs false

/-! ### quietuslaw38_spies: function 44 -/
def quietuslaw38_spies.f (a0 : Int) (a1 : Int) (a2 : Int) (a3 : Int) : Option (Int × (List (S71))) := some (0, (([(⟨a0, a1⟩ : S71), (⟨a2, a3⟩ : S71)] : List (S71))))
set_option maxHeartbeats 8000000 in
set_option maxRecDepth 100000 in
theorem quietuslaw38_spies.calls (a0 : Int) (a1 : Int) (a2 : Int) (a3 : Int) (r1 : Int) (r2 : List (S71)) (w : World) (h : quietuslaw38_spies.f a0 a1 a2 a3 = some (r1, r2)) :
    Calls Try.prog 44 #[.int .i64 a0, .int .i64 a1, .int .i64 a2, .int .i64 a3] w fun e w' => ∃ v1_ : Value, e = .returned (.agg #[.int .i64 r1, v1_]) ∧ Kd.R k71 71 w' w.heap.size (fun _ => True) v1_ r2 ∧ Below w.heap.size w w' := by
  have hu48 := Try.underlying48
  have hu71 := Try.underlying71
  have HB := Aside0.mk (Below.refl w.heap.size w)
  have H : (some (0, (([(⟨a0, a1⟩ : S71), (⟨a2, a3⟩ : S71)] : List (S71))))) = some (r1, r2) := h
  clear h
  obtain ⟨y168, hy168⟩ : ∃ y_ : List (S71), y_ = (([(⟨a0, a1⟩ : S71), (⟨a2, a3⟩ : S71)] : List (S71))) := ⟨_, rfl⟩
  replace H : (some (0, y168)) = some (r1, r2) := by first | (rw [hy168]; with_reducible exact H) | (have H2_ := (Option.bind_some _ _).symm.trans H; rw [hy168]; with_reducible exact H2_) | (have H2_ := (Option.bind_some _ _).symm.trans H; with_reducible exact H2_) | with_reducible exact H | (rw [hy168]; exact H) | exact H
  have Ny168 := Aside0.mk hy168
  clear hy168
  simp only [Option.some.injEq, Prod.mk.injEq] at H
  obtain ⟨rfl, rfl⟩ := H
  go_enter Try.func44, Try.ntmps44
  go_wp2_with (first | ((with_reducible refine gate_dst (N := 8) rfl ?_); refine box_event ?hg (N := 8) ?hd (cs := #[.int .i64 0, .slice none 0 0]) (t := 48) ?hr ?_; (case hd => rfl); (case hg => rfl); (case hr => first | (go_simp; done) | (go_simp; rfl)); intro gb167 hg w5 hbox hb; have n0_ := Aside0.mk (below_step (by repeat (first | (with_reducible first | exact HB.out | apply below_alloc | apply pw_below_drewN | apply below_drew1) | exact HB.out)) hb); have n1_ := Aside0.mk (hbox); have n2_ := Aside0.mk ((by rw [hg]; exact (below_size (by repeat (first | (with_reducible first | exact HB.out | apply below_alloc | apply pw_below_drewN | apply below_drew1) | exact HB.out))) : w.heap.size ≤ gb167)); have n3_ := Aside0.mk ((by rw [hg]; exact (below_size (by repeat (first | (with_reducible first | exact HB.out | apply below_alloc | apply pw_below_drewN | apply below_drew1) | exact HB.out))) : w.heap.size ≤ gb167)); clear HB; have HB := n0_; have BK167 := n1_; have GW167 := n2_; have GE167 := n3_; clear n0_ n1_ n2_ n3_; clear hb hbox hg) | ((with_reducible refine gate_dst (N := 15) rfl ?_); refine Kd.R_lit k71 _ 71 ?hg (N := 15) ?hd (xs := ([(⟨a0, a1⟩ : S71), (⟨a2, a3⟩ : S71)] : List (S71))) (inner := [.int .i64 a0, .int .i64 a1, .int .i64 a2, .int .i64 a3]) (ok := fun _ => True) (okp := fun _ => True) ?hr ?hp (fun _ hk => hk) trivial (Below.refl _ _) (Nat.le_refl _) (by simp) ?_; (case hd => rfl); (case hg => rfl); (case hr => first | (go_simp; done) | (go_simp; rfl)); (case hp => exact (Reps.c2 (show Kd.M k71 _ _ _ (⟨a0, a1⟩ : S71) [.int .i64 a0, .int .i64 a1] from (k71_mkM _ _ _ (⟨a0, a1⟩ : S71) )) (Reps.c2 (show Kd.M k71 _ _ _ (⟨a2, a3⟩ : S71) [.int .i64 a2, .int .i64 a3] from (k71_mkM _ _ _ (⟨a2, a3⟩ : S71) )) (Reps.none _ _)))); intro v169 w6 ho7 hb hg_ hnew_; clear hg_ hnew_; (first | rw [← Ny168.out] at ho7 | (simp only [Int.reduceToNat] at ho7; rw [← Ny168.out] at ho7)); have n0_ := Aside0.mk (Kd.R_lower ho7 (below_size (by repeat (first | (with_reducible first | exact HB.out | apply below_alloc | apply pw_below_drewN | apply below_drew1 | refine below_set ?_ GE167.out) | exact HB.out)))); have n1_ := Aside0.mk (blk_below (g := gb167) (o := .cells #[.int .i64 0, .slice none 0 0] 48 (0, 0)) (by (with_reducible repeat (first | refine blk_drewN ?_ _ | refine blk_drew ?_ | refine blk_alloc ?_ _)); exact BK167.out) hb); have n2_ := Aside0.mk (below_step (by repeat (first | (with_reducible first | exact HB.out | apply below_alloc | apply pw_below_drewN | apply below_drew1 | refine below_set ?_ GE167.out) | exact HB.out)) hb); clear BK167; clear HB; have HO170 := n0_; have BK167 := n1_; have HB := n2_; clear n0_ n1_ n2_; clear hb ho7; obtain ⟨Ao8, co8, eo8⟩ := Kd.R_slice HO170.out; subst eo8; have hcz9_0 : w6.cell? ⟨gb167, 0, none⟩ = some (.int .i64 0) := (blk_cell BK167.out 0).trans rfl; have hcz9_1 : w6.cell? ⟨gb167, 1, none⟩ = some (.slice none 0 0) := (blk_cell BK167.out 1).trans rfl; have hfz9_0 := blk_frozen BK167.out 0; have hfz9_1 := blk_frozen BK167.out 1))
  refine bodyPost_ret (results_cell_row rfl _ _ gb167 48 #[.int .i64 0, .slice Ao8 y168.length co8] (0, 0) _ rfl (by (with_reducible repeat (first | refine blk_drewN ?_ _ | refine blk_drew ?_ | refine blk_alloc ?_ _)); refine blk_put (cs := #[.int .i64 0, .slice none 0 0]) ?_ 1 _ rfl; (with_reducible repeat (first | refine blk_drewN ?_ _ | refine blk_drew ?_ | refine blk_alloc ?_ _)); refine blk_put (cs := #[.int .i64 0, .slice none 0 0]) ?_ 0 _ rfl; (with_reducible repeat (first | refine blk_drewN ?_ _ | refine blk_drew ?_ | refine blk_alloc ?_ _)); exact BK167.out) Try.underlying48 rfl (by kernel_rfl)) rfl ?_
  exact ⟨_, by first | rfl | (simp [errW_none, errW_some] <;> rfl) | (simp [*, errW_none, errW_some] <;> rfl), by (with_reducible repeat (first | apply Kd.R_alloc | apply Kd.R_drewN | apply Kd.R_drew)); exact Kd.R_mono (Kd.R_far (p := ⟨gb167, 1, none⟩) (Kd.R_far (p := ⟨gb167, 0, none⟩) (Kd.R_types HO170.out BK167.out (by decide)) (fun _ hk => hk.2) (.int .i64 0)) (fun _ hk => hk.2) (.slice Ao8 y168.length co8)) (fun _ hk => trivial), by repeat (first | (with_reducible first | exact HB.out | apply below_alloc | apply pw_below_drewN | apply below_drew1 | refine below_set ?_ GE167.out) | exact HB.out)⟩

-- NOT PRINTED: function 10 (quietuslaw38_sanity)

end Go.Proofs.Ytlelhmephibfjaa.T

namespace Go.Proofs.Ytlelhmephibfjaa.T
open Go.RowKit Go.Proofs.YtlelhmephibfjaaW.PrintWords Go.Proofs.YtlelhmephibfjaaW.PrintLast Go.Proofs.YtlelhmephibfjaaW.PrintMore
attribute [local go_sem] max2_int min2_int max_two min_two max_three min_three max_four min_four   -- for this text's walks alone
set_option linter.unusedVariables false
set_option linter.unusedSimpArgs false

/-! ### slices_Clone_int_int: function 45 -/
def slices_Clone_int_int.f (l0 : List Int) : Option (List Int) := (some (([] : List Int) : List Int)).bind fun y103 => (if y103.length + l0.length < 17592186044416 then (some (y103 ++ l0)) else (none))
set_option maxHeartbeats 8000000 in
set_option maxRecDepth 100000 in
theorem slices_Clone_int_int.calls_some (ad_ : Addr) (c0 : Nat) (l0 : List Int) (r : List Int) (w : World) (hr0 : Kd.C (Kd.int .i64) w (some ad_) l0.length l0) (hc0 : l0.length ≤ c0) (h : slices_Clone_int_int.f l0 = some r) :
    Calls Try.prog 45 #[.slice (some ad_) l0.length c0] w fun e w' => ∃ v0_ : Value, e = .returned (v0_) ∧ Kd.R (Kd.int .i64) 3 w' w.heap.size (fun _ => True) v0_ r ∧ Below w.heap.size w w' := by
  have HR0 := Aside0.mk hr0
  have HC0 := Aside0.mk hc0
  clear hr0 hc0
  have HB := Aside0.mk (Below.refl w.heap.size w)
  have H : ((some (([] : List Int) : List Int)).bind fun y103 => (if y103.length + l0.length < 17592186044416 then (some (y103 ++ l0)) else (none))) = some r := h
  clear h
  obtain ⟨y103, hy103⟩ : ∃ y_ : List Int, y_ = (([] : List Int)) := ⟨_, rfl⟩
  replace H : (if y103.length + l0.length < 17592186044416 then (some (y103 ++ l0)) else (none)) = some r := by first | (rw [hy103]; with_reducible exact H) | (have H2_ := (Option.bind_some _ _).symm.trans H; rw [hy103]; with_reducible exact H2_) | (have H2_ := (Option.bind_some _ _).symm.trans H; with_reducible exact H2_) | with_reducible exact H | (rw [hy103]; exact H) | exact H
  have Ny103 := Aside0.mk hy103
  clear hy103
  by_cases c2 : y103.length + l0.length < 17592186044416
  · rw [if_pos c2] at H
    have LMc2 := Aside0.mk c2
    clear c2
    obtain ⟨y106, hy106⟩ : ∃ y_ : List Int, y_ = (y103 ++ l0) := ⟨_, rfl⟩
    replace H : (some y106) = some r := by first | (rw [hy106]; with_reducible exact H) | (have H2_ := (Option.bind_some _ _).symm.trans H; rw [hy106]; with_reducible exact H2_) | (have H2_ := (Option.bind_some _ _).symm.trans H; with_reducible exact H2_) | with_reducible exact H | (rw [hy106]; exact H) | exact H
    have Ny106 := Aside0.mk hy106
    clear hy106
    obtain rfl := Option.some.inj H
    have hq : ∀ W, Sem.run Try.prog (binOp BinOp.eql 23 (.slice (some ad_) l0.length c0) (.slice none 0 0)) W = .ok (.bool false) W := fun _ => rfl
    go_enter Try.func45, Try.ntmps45
    go_wp2_with (first | ((with_reducible refine gate_dst (N := 5) rfl ?_); refine Kd.R_lit (Kd.int .i64) _ 3 ?hg (N := 5) ?hd (xs := ([] : List Int)) (inner := []) (ok := fun _ => True) (okp := fun _ => True) ?hr ?hp (fun _ hk => hk) trivial (Below.refl _ _) (Nat.le_refl _) (by simp) ?_; (case hd => rfl); (case hg => rfl); (case hr => first | (go_simp; done) | (go_simp; rfl)); (case hp => exact (Reps.none _ _)); intro v104 w3 ho4 hb hg_ hnew_; clear hg_ hnew_; (first | rw [← Ny103.out] at ho4 | (simp only [Int.reduceToNat] at ho4; rw [← Ny103.out] at ho4)); have n0_ := Aside0.mk (Kd.R_lower ho4 (below_size (by repeat (first | (with_reducible first | exact HB.out | apply below_alloc | apply pw_below_drewN | apply below_drew1) | exact HB.out)))); have n1_ := Aside0.mk (below_step (by repeat (first | (with_reducible first | exact HB.out | apply below_alloc | apply pw_below_drewN | apply below_drew1) | exact HB.out)) hb); clear HB; have HO105 := n0_; have HB := n1_; clear n0_ n1_; clear hb ho4) | ((with_reducible refine gate_builtin (b := .append) (xs := #[.tmp 5, .tmp 6]) rfl ?_); at_builtin; refine Kd.R_append_rows (Kd.int .i64) (w0 := w) w.heap.size rfl (.tmp 5) (.tmp 6) 23 3 (.int .i64 0) 8 rfl Try.underlying23 info3 rfl (by decide) (by omega) v104 y103 l0 _ _ _ (fun _ => True) (fun _ => False) rfl rfl ?aO ?aR (fun _ _ h => h) (fun _ h => h.elim) ?aF ?aB ?aS ?aL ?_; (case aR => repeat (first | exact (Kd.C_below HR0.out HB.out) | (with_reducible refine Kd.C_alloc ?_ _) | (with_reducible refine Kd.C_drewN ?_ _) | (with_reducible refine Kd.C_drew ?_))); (case aB => exact (by repeat (first | (with_reducible first | exact HB.out | apply below_alloc | apply pw_below_drewN | apply below_drew1) | exact HB.out))); (case aF => exact (fun _ _ => trivial)); (case aO => exact (by (with_reducible repeat (first | apply Kd.R_alloc | apply Kd.R_drewN | apply Kd.R_drew)); exact HO105.out)); (case aS => exact (below_size (by repeat (first | (with_reducible first | exact HB.out | apply below_alloc | apply pw_below_drewN | apply below_drew1) | exact HB.out)))); (case aL => have := LMc2.out; omega); intro v107 w5 ho hb hg hat; rw [← Ny106.out] at ho; have n0_ := Aside0.mk (hb); have n1_ := Aside0.mk (ho); clear HB; clear HO105; have HB := n0_; have HO108 := n1_; clear n0_ n1_; clear ho hb hg hat))
    go_ret
    exact ⟨_, by first | rfl | (simp [errW_none, errW_some] <;> rfl) | (simp [*, errW_none, errW_some] <;> rfl), by (with_reducible repeat (first | apply Kd.R_alloc | apply Kd.R_drewN | apply Kd.R_drew)); exact HO108.out, by repeat (first | (with_reducible first | exact HB.out | apply below_alloc | apply pw_below_drewN | apply below_drew1) | exact HB.out)⟩
  · rw [if_neg c2] at H
    exact absurd H (by simp)

set_option maxHeartbeats 8000000 in
set_option maxRecDepth 100000 in
theorem slices_Clone_int_int.calls (A0 : Option Addr) (c0 : Nat) (l0 : List Int) (r : List Int) (w : World) (hr0 : Kd.C (Kd.int .i64) w A0 l0.length l0) (hc0 : l0.length ≤ c0) (h : slices_Clone_int_int.f l0 = some r) :
    Calls Try.prog 45 #[.slice A0 l0.length c0] w fun e w' => ∃ v0_ : Value, e = .returned (v0_) ∧ Kd.R (Kd.int .i64) 3 w' w.heap.size (fun _ => True) v0_ r ∧ Below w.heap.size w w' := by
  cases A0 with
  | some ad_ => exact slices_Clone_int_int.calls_some ad_ c0 l0 r w hr0 hc0 h
  | none =>
    have hl : l0 = [] := by
      cases l0 with
      | nil => rfl
      | cons x l =>
        exfalso
        obtain ⟨ad, e, _⟩ := Kd.at_int hr0 0 (by omega) (by simp)
        cases e
    subst hl
    have hr : r = [] := by
      unfold slices_Clone_int_int.f at h
      simp at h
      exact h
    subst hr
    have hq : ∀ W, Sem.run Try.prog (binOp BinOp.eql 23 (.slice none 0 c0) (.slice none 0 0)) W = .ok (.bool true) W := fun _ => rfl
    go_enter Try.func45, Try.ntmps45
    go_wp2
    go_ret
    exact ⟨_, rfl, by first | exact Kd.N_nil _ _ _ _ _ | exact Kd.R_nil _ _ _ _ _, Below.refl _ _⟩

end Go.Proofs.Ytlelhmephibfjaa.T

namespace Go.Proofs.Ytlelhmephibfjaa.T
open Go.RowKit Go.Proofs.YtlelhmephibfjaaW.PrintWords Go.Proofs.YtlelhmephibfjaaW.PrintLast Go.Proofs.YtlelhmephibfjaaW.PrintMore
attribute [local go_sem] max2_int min2_int max_two min_two max_three min_three max_four min_four   -- for this text's walks alone
set_option linter.unusedVariables false
set_option linter.unusedSimpArgs false

/-! ### trace_Add: function 11 -/
def trace_Add.f (l0 : List (S25)) (a1_0 : Int) (a1_1 : Int) (a1_2 : Int) (l1_3 : List Int) (a1_4 : Int) (a1_5 : Int) (a1_6 : Int) (a1_7 : Int) (a1_8 : Int) (a1_9 : Int) : Option ((List (S25)) × Int) := if l1_3.length ≤ 1000 then (trace_Check.f l0).bind fun t116 => (if t116 = 0 then ((api_Artifact_46.f l0).bind fun t117 => ((some (([(⟨a1_0, a1_1, a1_2, l1_3, a1_4, a1_5, a1_6, a1_7, a1_8, a1_9⟩ : S25)] : List (S25)) : List (S25))).bind fun y120 => (if t117.length + y120.length < 1466015503701 then ((some (t117 ++ y120 : List (S25))).bind fun y123 => ((trace_Check.f y123).bind fun t126 => (if t126 = 0 then (some (y123, 0)) else (some (([] : List (S25)), t126))))) else (none)))) else (some (([] : List (S25)), t116))) else none
set_option maxHeartbeats 8000000 in
set_option maxRecDepth 100000 in
theorem trace_Add.calls (P0_ : Nat → Prop) (A0 : Option Addr) (c0 : Nat) (l0 : List (S25)) (a1_0 : Int) (a1_1 : Int) (a1_2 : Int) (P1_3_ : Nat → Prop) (A1_3 : Option Addr) (c1_3 : Nat) (l1_3 : List Int) (a1_4 : Int) (a1_5 : Int) (a1_6 : Int) (a1_7 : Int) (a1_8 : Int) (a1_9 : Int) (r1 : List (S25)) (r2 : Int) (w : World) (hs0 : Kd.V k25 25 w w.heap.size (fun k_ => P0_ k_) (.slice A0 l0.length c0) l0) (hs1_3 : Kd.V (Kd.int .i64) 3 w w.heap.size (fun k_ => P1_3_ k_) (.slice A1_3 l1_3.length c1_3) l1_3) (h : trace_Add.f l0 a1_0 a1_1 a1_2 l1_3 a1_4 a1_5 a1_6 a1_7 a1_8 a1_9 = some (r1, r2)) :
    Calls Try.prog 11 #[.slice A0 l0.length c0, .agg #[.int .i64 a1_0, .int .i64 a1_1, .int .i64 a1_2, .slice A1_3 l1_3.length c1_3, .int .i64 a1_4, .int .i64 a1_5, .int .i64 a1_6, .int .i64 a1_7, .int .i64 a1_8, .int .i64 a1_9]] w fun e w' => ∃ v0_ : Value, e = .returned (.tuple #[v0_, .int .i64 r2]) ∧ Kd.N k25 25 w' w.heap.size (fun k_ => ((P0_ k_ ∨ P1_3_ k_) ∨ w.heap.size ≤ k_)) v0_ r1 ∧ Below w.heap.size w w' := by
  have hl13 : l1_3.length ≤ 1000 := by
    unfold trace_Add.f at h
    by_cases c : l1_3.length ≤ 1000
    · exact c
    · rw [if_neg c] at h; cases h
  unfold trace_Add.f at h
  rw [if_pos hl13] at h
  have HCL : Aside0 (slices_Clone_int_int.f l1_3 = some l1_3) := ⟨by unfold slices_Clone_int_int.f; rw [Option.bind_some, if_pos (by simp; omega)]; rfl⟩
  have hu25 := Try.underlying25
  have HO0 := Aside0.mk (show Kd.V k25 25 w w.heap.size (fun k_ => ((P0_ k_ ∨ P1_3_ k_) ∨ w.heap.size ≤ k_)) (.slice A0 l0.length c0) l0 from Kd.V_mono hs0 (fun k_ hk => .inl (.inl hk)))
  have HO1_3 := Aside0.mk (show Kd.V (Kd.int .i64) 3 w w.heap.size (fun k_ => ((P0_ k_ ∨ P1_3_ k_) ∨ w.heap.size ≤ k_)) (.slice A1_3 l1_3.length c1_3) l1_3 from Kd.V_mono hs1_3 (fun k_ hk => .inl (.inr hk)))
  have HB := Aside0.mk (Below.refl w.heap.size w)
  have H : ((trace_Check.f l0).bind fun t116 => (if t116 = 0 then ((api_Artifact_46.f l0).bind fun t117 => ((some (([(⟨a1_0, a1_1, a1_2, l1_3, a1_4, a1_5, a1_6, a1_7, a1_8, a1_9⟩ : S25)] : List (S25)) : List (S25))).bind fun y120 => (if t117.length + y120.length < 1466015503701 then ((some (t117 ++ y120 : List (S25))).bind fun y123 => ((trace_Check.f y123).bind fun t126 => (if t126 = 0 then (some (y123, 0)) else (some (([] : List (S25)), t126))))) else (none)))) else (some (([] : List (S25)), t116)))) = some (r1, r2) := h
  clear h
  replace H := Option.bind_eq_some_iff.mp H
  obtain ⟨t116, A30, H⟩ := H
  replace H : (if t116 = 0 then ((api_Artifact_46.f l0).bind fun t117 => ((some (([(⟨a1_0, a1_1, a1_2, l1_3, a1_4, a1_5, a1_6, a1_7, a1_8, a1_9⟩ : S25)] : List (S25)) : List (S25))).bind fun y120 => (if t117.length + y120.length < 1466015503701 then ((some (t117 ++ y120 : List (S25))).bind fun y123 => ((trace_Check.f y123).bind fun t126 => (if t126 = 0 then (some (y123, 0)) else (some (([] : List (S25)), t126))))) else (none)))) else (some (([] : List (S25)), t116))) = some (r1, r2) := H
  have A3 := Aside0.mk A30
  clear A30
  by_cases c4 : t116 = 0
  · rw [if_pos c4] at H
    have c4b0 : (t116 == 0) = true := beq_iff_eq.mpr c4
    have c4b1 : (t116 != 0) = false := bne_eq_false_iff_eq.mpr c4
    clear c4
    replace H := Option.bind_eq_some_iff.mp H
    obtain ⟨t117, A50, H⟩ := H
    replace H : ((some (([(⟨a1_0, a1_1, a1_2, l1_3, a1_4, a1_5, a1_6, a1_7, a1_8, a1_9⟩ : S25)] : List (S25)) : List (S25))).bind fun y120 => (if t117.length + y120.length < 1466015503701 then ((some (t117 ++ y120 : List (S25))).bind fun y123 => ((trace_Check.f y123).bind fun t126 => (if t126 = 0 then (some (y123, 0)) else (some (([] : List (S25)), t126))))) else (none))) = some (r1, r2) := H
    have A5 := Aside0.mk A50
    clear A50
    obtain ⟨y120, hy120⟩ : ∃ y_ : List (S25), y_ = (([(⟨a1_0, a1_1, a1_2, l1_3, a1_4, a1_5, a1_6, a1_7, a1_8, a1_9⟩ : S25)] : List (S25))) := ⟨_, rfl⟩
    replace H : (if t117.length + y120.length < 1466015503701 then ((some (t117 ++ y120 : List (S25))).bind fun y123 => ((trace_Check.f y123).bind fun t126 => (if t126 = 0 then (some (y123, 0)) else (some (([] : List (S25)), t126))))) else (none)) = some (r1, r2) := by first | (rw [hy120]; with_reducible exact H) | (have H2_ := (Option.bind_some _ _).symm.trans H; rw [hy120]; with_reducible exact H2_) | (have H2_ := (Option.bind_some _ _).symm.trans H; with_reducible exact H2_) | with_reducible exact H | (rw [hy120]; exact H) | exact H
    have Ny120 := Aside0.mk hy120
    clear hy120
    by_cases c6 : t117.length + y120.length < 1466015503701
    · rw [if_pos c6] at H
      have LMc6 := Aside0.mk c6
      clear c6
      obtain ⟨y123, hy123⟩ : ∃ y_ : List (S25), y_ = (t117 ++ y120) := ⟨_, rfl⟩
      replace H : ((trace_Check.f y123).bind fun t126 => (if t126 = 0 then (some (y123, 0)) else (some (([] : List (S25)), t126)))) = some (r1, r2) := by first | (rw [hy123]; with_reducible exact H) | (have H2_ := (Option.bind_some _ _).symm.trans H; rw [hy123]; with_reducible exact H2_) | (have H2_ := (Option.bind_some _ _).symm.trans H; with_reducible exact H2_) | with_reducible exact H | (rw [hy123]; exact H) | exact H
      have Ny123 := Aside0.mk hy123
      clear hy123
      replace H := Option.bind_eq_some_iff.mp H
      obtain ⟨t126, A70, H⟩ := H
      replace H : (if t126 = 0 then (some (y123, 0)) else (some (([] : List (S25)), t126))) = some (r1, r2) := H
      have A7 := Aside0.mk A70
      clear A70
      by_cases c8 : t126 = 0
      · rw [if_pos c8] at H
        have c8b0 : (t126 == 0) = true := beq_iff_eq.mpr c8
        have c8b1 : (t126 != 0) = false := bne_eq_false_iff_eq.mpr c8
        clear c8
        simp only [Option.some.injEq, Prod.mk.injEq] at H
        obtain ⟨rfl, rfl⟩ := H
        go_enter Try.func11, Try.ntmps11
        try go_wp2_with (first | ((with_reducible refine gate_dst (N := 3) rfl ?_); refine box_event ?hg (N := 3) ?hd (cs := #[.int .i64 a1_0, .int .i64 a1_1, .int .i64 a1_2, .slice A1_3 l1_3.length c1_3, .int .i64 a1_4, .int .i64 a1_5, .int .i64 a1_6, .int .i64 a1_7, .int .i64 a1_8, .int .i64 a1_9]) (t := 25) ?hr ?_; (case hd => rfl); (case hg => rfl); (case hr => first | (go_simp; done) | (go_simp; rfl)); intro gb115 hg w9 hbox hb; have n0_ := Aside0.mk (Kd.V_below (Kd.V_elderB (by (with_reducible repeat (first | apply Kd.V_alloc | apply Kd.V_drewN | apply Kd.V_drew)); exact HO0.out) gb115 (Nat.le_of_eq hg.symm)) hb); have n1_ := Aside0.mk (Kd.V_below (Kd.V_elderB (by (with_reducible repeat (first | apply Kd.V_alloc | apply Kd.V_drewN | apply Kd.V_drew)); exact HO1_3.out) gb115 (Nat.le_of_eq hg.symm)) hb); have n2_ := Aside0.mk (below_step (by repeat (first | (with_reducible first | exact HB.out | apply below_alloc | apply pw_below_drewN | apply below_drew1) | exact HB.out)) hb); have n3_ := Aside0.mk (hbox); have n4_ := Aside0.mk ((by rw [hg]; exact (below_size (by repeat (first | (with_reducible first | exact HB.out | apply below_alloc | apply pw_below_drewN | apply below_drew1) | exact HB.out))) : w.heap.size ≤ gb115)); have n5_ := Aside0.mk ((by rw [hg]; exact (below_size (by repeat (first | (with_reducible first | exact HB.out | apply below_alloc | apply pw_below_drewN | apply below_drew1) | exact HB.out))) : w.heap.size ≤ gb115)); clear HO0; clear HO1_3; clear HB; have HO0 := n0_; have HO1_3 := n1_; have HB := n2_; have BK115 := n3_; have GW115 := n4_; have GE115 := n5_; clear n0_ n1_ n2_ n3_ n4_ n5_; clear hb hbox hg) | ((with_reducible refine gate_callee (f := 21) rfl ?_); refine goesL_ (some 10) rfl rfl Try.func21 (by kernel_rfl) rfl #[.slice A0 l0.length c0] rfl (by (try simp only [List.map_toArray, List.map_cons, List.map_nil]); first | done | rfl | (simp only [List.length_drop, List.length_take]; rfl)) ?_; (with_reducible refine (trace_Check.calls _ _ l0 t116 _ ?side1 ?side2 A3.out).mono ?_); (case side1 => repeat (first | exact (Kd.V_reads' HO0.out).2.2 | (with_reducible refine Kd.C_alloc ?_ _) | (with_reducible refine Kd.C_drewN ?_ _) | (with_reducible refine Kd.C_drew ?_))); (case side2 => exact (Kd.V_reads' HO0.out).2.1); rintro e w10 ⟨rfl, hb⟩; refine ⟨_, rfl, ?_⟩; have n0_ := Aside0.mk (Kd.V_below (by (with_reducible repeat (first | apply Kd.V_alloc | apply Kd.V_drewN | apply Kd.V_drew)); exact HO0.out) hb); have n1_ := Aside0.mk (Kd.V_below (by (with_reducible repeat (first | apply Kd.V_alloc | apply Kd.V_drewN | apply Kd.V_drew)); exact HO1_3.out) hb); have n2_ := Aside0.mk (blk_below (g := gb115) (o := .cells #[.int .i64 a1_0, .int .i64 a1_1, .int .i64 a1_2, .slice A1_3 l1_3.length c1_3, .int .i64 a1_4, .int .i64 a1_5, .int .i64 a1_6, .int .i64 a1_7, .int .i64 a1_8, .int .i64 a1_9] 25 (0, 0)) (by (with_reducible repeat (first | refine blk_drewN ?_ _ | refine blk_drew ?_ | refine blk_alloc ?_ _)); exact BK115.out) hb); have n3_ := Aside0.mk (below_step (by repeat (first | (with_reducible first | exact HB.out | apply below_alloc | apply pw_below_drewN | apply below_drew1 | refine below_set ?_ GE115.out) | exact HB.out)) hb); clear HO0; clear HO1_3; clear BK115; clear HB; have HO0 := n0_; have HO1_3 := n1_; have BK115 := n2_; have HB := n3_; clear n0_ n1_ n2_ n3_; (try clear hb); (try clear hb2); (try clear hk); (try clear hi); have hc_ := blk_cell BK115.out))
        clear hc_
        refine (slices_Clone_int_int.calls _ _ l1_3 l1_3 _ ?side1 ?side2 HCL.out).mono ?_
        case side1 => exact (Kd.V_reads' HO1_3.out).2.2
        case side2 => exact (Kd.V_reads' HO1_3.out).2.1
        rintro e wz_ ⟨vz_, rfl, hoz_, hbz_⟩
        obtain ⟨A1_3, c1_3, rfl⟩ := Kd.V_slice (Kd.N_V (base' := w.heap.size) (Kd.R_N hoz_))
        have n0_ := Aside0.mk (Kd.V_below HO0.out hbz_)
        have n1_ := Aside0.mk (Kd.V_mono (ok' := fun k_ => ((P0_ k_ ∨ P1_3_ k_) ∨ w.heap.size ≤ k_) ∧ k_ ≠ gb115) (Kd.N_V (base' := w.heap.size) (Kd.R_N (Kd.R_tight rfl hoz_))) (fun k_ hk_ => by
          have h1_ := Kd.N_base (Kd.R_N hoz_) k_ hk_.symm
          have h2_ := below_size HB.out
          have h3_ := blk_lt BK115.out
          exact ⟨.inr (Nat.le_trans h2_ h1_), by omega⟩))
        have n2_ := Aside0.mk (blk_below BK115.out hbz_)
        have n3_ := Aside0.mk (below_step HB.out hbz_)
        clear HO0 HO1_3 BK115 HB hoz_ hbz_
        have HO0 := n0_
        have HO1_3 := n1_
        have BK115 := n2_
        have HB := n3_
        clear n0_ n1_ n2_ n3_
        have hc_ := blk_cell BK115.out
        have hf_ := blk_frozen BK115.out
        go_wp2_with fail
        clear hc_ hf_
        have n0_ := Aside0.mk (Kd.V_far (p := ⟨gb115, 3, none⟩) HO0.out (fun k hk => hk.2) (.slice A1_3 l1_3.length c1_3))
        have n1_ := Aside0.mk (Kd.V_far (p := ⟨gb115, 3, none⟩) HO1_3.out (fun k hk => hk.2) (.slice A1_3 l1_3.length c1_3))
        have n2_ := Aside0.mk (blk_put (cs' := #[.int .i64 a1_0, .int .i64 a1_1, .int .i64 a1_2, .slice A1_3 l1_3.length c1_3, .int .i64 a1_4, .int .i64 a1_5, .int .i64 a1_6, .int .i64 a1_7, .int .i64 a1_8, .int .i64 a1_9]) BK115.out 3 (.slice A1_3 l1_3.length c1_3) rfl)
        have n3_ := Aside0.mk (below_set (j := 3) (v := .slice A1_3 l1_3.length c1_3) HB.out GE115.out)
        clear HO0 HO1_3 BK115 HB
        have HO0 := n0_
        have HO1_3 := n1_
        have BK115 := n2_
        have HB := n3_
        clear n0_ n1_ n2_ n3_
        generalize wz_.setCell ⟨gb115, 3, none⟩ (.slice A1_3 l1_3.length c1_3) = w10 at *
        have n0_ := Aside0.mk (Kd.V_drew HO0.out)
        have n1_ := Aside0.mk (Kd.V_drew HO1_3.out)
        have n2_ := Aside0.mk (blk_drew BK115.out)
        have n3_ := Aside0.mk (below_drew1 HB.out)
        clear HO0
        clear HO1_3
        clear BK115
        clear HB
        have HO0 := n0_
        have HO1_3 := n1_
        have BK115 := n2_
        have HB := n3_
        clear n0_ n1_ n2_ n3_
        refine start_ (n := 6) (S := fun w' => w'.cell? ⟨gb115, 0, none⟩ = some (.int .i64 a1_0) ∧ w'.cell? ⟨gb115, 1, none⟩ = some (.int .i64 a1_1) ∧ w'.cell? ⟨gb115, 2, none⟩ = some (.int .i64 a1_2) ∧ w'.cell? ⟨gb115, 3, none⟩ = some (.slice A1_3 l1_3.length c1_3) ∧ w'.cell? ⟨gb115, 4, none⟩ = some (.int .i64 a1_4) ∧ w'.cell? ⟨gb115, 5, none⟩ = some (.int .i64 a1_5) ∧ w'.cell? ⟨gb115, 6, none⟩ = some (.int .i64 a1_6) ∧ w'.cell? ⟨gb115, 7, none⟩ = some (.int .i64 a1_7) ∧ w'.cell? ⟨gb115, 8, none⟩ = some (.int .i64 a1_8) ∧ w'.cell? ⟨gb115, 9, none⟩ = some (.int .i64 a1_9)) (ds := []) #[false, false, false, false, false, false] (by kernel_rfl) rfl rfl ⟨(blk_cell BK115.out 0).trans rfl, (blk_cell BK115.out 1).trans rfl, (blk_cell BK115.out 2).trans rfl, (blk_cell BK115.out 3).trans rfl, (blk_cell BK115.out 4).trans rfl, (blk_cell BK115.out 5).trans rfl, (blk_cell BK115.out 6).trans rfl, (blk_cell BK115.out 7).trans rfl, (blk_cell BK115.out 8).trans rfl, (blk_cell BK115.out 9).trans rfl⟩ (fun hHeld => ?_)
        generalize w10.drew = w11 at HO0 HO1_3 BK115 HB hHeld ⊢
        refine pure_ (i := 0) (N := some 18) (v := ?_) (a' := ?_) #[true, false, false, false, false, false] rfl rfl (by kernel_rfl) (fun _ _ _ h => h) (Or.inl ⟨by rfl, ?_⟩) ?_ ?_
        rotate_left
        · intro w'
          go_simp
          with_reducible rfl
        rotate_left
        · simp only [Act.put, List.setIfInBounds_toArray, List.set_cons_zero, List.set_cons_succ, i64_w, i32_w]
          rfl
        refine take_ (i := 2) (N := some 20) (v := ?_) (a' := ?_) #[true, false, true, false, false, false] rfl rfl (by kernel_rfl) (fun _ _ _ h => h) (Or.inl ⟨by rfl, ?_⟩) hHeld ?_ ?_
        rotate_left
        · rintro w' ⟨s0, s1, s2, s3, s4, s5, s6, s7, s8, s9⟩
          go_simp
          with_reducible rfl
        rotate_left
        · simp only [Act.put, List.setIfInBounds_toArray, List.set_cons_zero, List.set_cons_succ, i64_w, i32_w]
          rfl
        refine join_ (σ := Value × Value) 2 #[true, true, true, true, false, false] (fun s_ => [(19, s_.1), (21, s_.2)]) (fun s_ w' => (w'.cell? ⟨gb115, 0, none⟩ = some (.int .i64 a1_0) ∧ w'.cell? ⟨gb115, 1, none⟩ = some (.int .i64 a1_1) ∧ w'.cell? ⟨gb115, 2, none⟩ = some (.int .i64 a1_2) ∧ w'.cell? ⟨gb115, 3, none⟩ = some (.slice A1_3 l1_3.length c1_3) ∧ w'.cell? ⟨gb115, 4, none⟩ = some (.int .i64 a1_4) ∧ w'.cell? ⟨gb115, 5, none⟩ = some (.int .i64 a1_5) ∧ w'.cell? ⟨gb115, 6, none⟩ = some (.int .i64 a1_6) ∧ w'.cell? ⟨gb115, 7, none⟩ = some (.int .i64 a1_7) ∧ w'.cell? ⟨gb115, 8, none⟩ = some (.int .i64 a1_8) ∧ w'.cell? ⟨gb115, 9, none⟩ = some (.int .i64 a1_9)) ∧ (Kd.V k25 25 w' w.heap.size (fun k_ => ((P0_ k_ ∨ P1_3_ k_) ∨ w.heap.size ≤ k_) ∧ some k_ ≠ (s_.1 : Value).ownBlock ∧ some k_ ≠ (s_.2 : Value).ownBlock ∧ k_ ≠ gb115) (.slice A0 l0.length c0) l0) ∧ (Kd.N k25 25 w' w.heap.size (fun k_ => ((P0_ k_ ∨ P1_3_ k_) ∨ w.heap.size ≤ k_) ∧ some k_ ≠ (s_.2 : Value).ownBlock ∧ k_ ≠ gb115) s_.1 t117) ∧ (Kd.N k25 25 w' w.heap.size (fun k_ => ((P0_ k_ ∨ P1_3_ k_) ∨ w.heap.size ≤ k_) ∧ some k_ ≠ (s_.1 : Value).ownBlock ∧ k_ ≠ gb115) s_.2 y120) ∧ (Kd.V (Kd.int .i64) 3 w' w.heap.size (fun k_ => ((P0_ k_ ∨ P1_3_ k_) ∨ w.heap.size ≤ k_) ∧ some k_ ≠ (s_.1 : Value).ownBlock ∧ some k_ ≠ (s_.2 : Value).ownBlock ∧ k_ ≠ gb115) (.slice A1_3 l1_3.length c1_3) l1_3) ∧ (w'.heap[gb115]? = some (.cells #[.int .i64 a1_0, .int .i64 a1_1, .int .i64 a1_2, .slice A1_3 l1_3.length c1_3, .int .i64 a1_4, .int .i64 a1_5, .int .i64 a1_6, .int .i64 a1_7, .int .i64 a1_8, .int .i64 a1_9] 25 (0, 0))) ∧ (Below w.heap.size w w')) ?_ ?_
        rotate_left
        · intro hCont
          refine two_ (i := 1) (j := 3) (Ni := some 19) (Nj := some 21) #[true, true, true, false, false, false] #[true, false, true, true, false, false] rfl rfl rfl rfl (by kernel_rfl) (by decide) (by decide) (fun K hK => ?_) (fun K hK => ?_)
          · skip
            refine goes_ Try.func46 (by kernel_rfl) rfl #[.slice A0 l0.length c0] (by rfl) rfl rfl (by (try simp only [List.map_toArray, List.map_cons, List.map_nil]); first | done | rfl | (simp only [List.length_drop, List.length_take]; rfl)) ?_
            with_reducible refine (api_Artifact_46.calls (fun k_ => (((P0_ k_ ∨ P1_3_ k_) ∨ w.heap.size ≤ k_) ∧ k_ ≠ gb115)) _ _ l0 t117 _ ?side1 A5.out).mono ?_
            (case side1 => exact HO0.out)
            rintro e w12 ⟨v118, rfl, ho0, hb⟩
            refine ⟨_, rfl, ?_⟩
            have n0_ := Aside0.mk (Kd.V_elder' (by (with_reducible repeat (first | apply Kd.V_alloc | apply Kd.V_drewN | apply Kd.V_drew)); exact HO0.out) (Kd.N_base ho0) hb)
            have n1_ := Aside0.mk (Kd.V_elder' (by (with_reducible repeat (first | apply Kd.V_alloc | apply Kd.V_drewN | apply Kd.V_drew)); exact HO1_3.out) (Kd.N_base ho0) hb)
            have n2_ := Aside0.mk (Kd.N_lower (Kd.N_mono (ok' := fun k_ => ((P0_ k_ ∨ P1_3_ k_) ∨ w.heap.size ≤ k_) ∧ k_ ≠ gb115) ho0 (fun k_ hk_ => ⟨Or.elim hk_ (fun hs_ => hs_.1) (fun hn_ => (.inr (Nat.le_trans (below_size (by repeat (first | (with_reducible first | exact HB.out | apply below_alloc | apply pw_below_drewN | apply below_drew1 | refine below_set ?_ GE115.out) | exact HB.out))) hn_))), Or.elim hk_ (fun hs_ => hs_.2) (fun hn_ => (Kd.freshB (g := gb115) (o := .cells #[.int .i64 a1_0, .int .i64 a1_1, .int .i64 a1_2, .slice A1_3 l1_3.length c1_3, .int .i64 a1_4, .int .i64 a1_5, .int .i64 a1_6, .int .i64 a1_7, .int .i64 a1_8, .int .i64 a1_9] 25 (0, 0)) (by (with_reducible repeat (first | refine blk_drewN ?_ _ | refine blk_drew ?_ | refine blk_alloc ?_ _)); exact BK115.out) k_ hn_))⟩)) (below_size (by repeat (first | (with_reducible first | exact HB.out | apply below_alloc | apply pw_below_drewN | apply below_drew1 | refine below_set ?_ GE115.out) | exact HB.out))))
            have n3_ := Aside0.mk (blk_below (g := gb115) (o := .cells #[.int .i64 a1_0, .int .i64 a1_1, .int .i64 a1_2, .slice A1_3 l1_3.length c1_3, .int .i64 a1_4, .int .i64 a1_5, .int .i64 a1_6, .int .i64 a1_7, .int .i64 a1_8, .int .i64 a1_9] 25 (0, 0)) (by (with_reducible repeat (first | refine blk_drewN ?_ _ | refine blk_drew ?_ | refine blk_alloc ?_ _)); exact BK115.out) hb)
            have n4_ := Aside0.mk (below_step (by repeat (first | (with_reducible first | exact HB.out | apply below_alloc | apply pw_below_drewN | apply below_drew1 | refine below_set ?_ GE115.out) | exact HB.out)) hb)
            clear HO0
            clear HO1_3
            clear BK115
            clear HB
            have HO0 := n0_
            have HO1_3 := n1_
            have HO119 := n2_
            have BK115 := n3_
            have HB := n4_
            clear n0_ n1_ n2_ n3_ n4_
            (try clear hb)
            (try clear hb2)
            (try clear hk)
            (try clear hi)
            (try clear ho0)
            refine hK.out _ _ ⟨(blk_cell BK115.out 0).trans rfl, (blk_cell BK115.out 1).trans rfl, (blk_cell BK115.out 2).trans rfl, (blk_cell BK115.out 3).trans rfl, (blk_cell BK115.out 4).trans rfl, (blk_cell BK115.out 5).trans rfl, (blk_cell BK115.out 6).trans rfl, (blk_cell BK115.out 7).trans rfl, (blk_cell BK115.out 8).trans rfl, (blk_cell BK115.out 9).trans rfl⟩ (fun hHeld => ?_)
            clear hK K
            refine norm_ (a' := ?_) ?_ ?_
            rotate_left
            · show Act.put _ (some 19) _ = _
              simp only [Act.put, List.setIfInBounds_toArray, List.set_cons_zero, List.set_cons_succ, i64_w, i32_w]
              rfl
            refine one_ (i := 3) (N := some 21) #[true, true, true, true, false, false] rfl rfl (by kernel_rfl) (by decide) (fun K hK => ?_)
            refine Kd.N_lit_step k25 _ 25 ?hg (N' := 21) ?hd (xs := ([(⟨a1_0, a1_1, a1_2, l1_3, a1_4, a1_5, a1_6, a1_7, a1_8, a1_9⟩ : S25)] : List (S25))) (inner := [.int .i64 a1_0, .int .i64 a1_1, .int .i64 a1_2, .slice A1_3 l1_3.length c1_3, .int .i64 a1_4, .int .i64 a1_5, .int .i64 a1_6, .int .i64 a1_7, .int .i64 a1_8, .int .i64 a1_9]) (ok := (fun k_ => ((P0_ k_ ∨ P1_3_ k_) ∨ w.heap.size ≤ k_) ∧ some k_ ≠ (v118 : Value).ownBlock ∧ k_ ≠ gb115)) (okp := (fun k_ => ((P0_ k_ ∨ P1_3_ k_) ∨ w.heap.size ≤ k_) ∧ some k_ ≠ (v118 : Value).ownBlock ∧ k_ ≠ gb115)) ?hr ?hp (fun _ hk => hk) ((show ∀ k_, w12.heap.size ≤ k_ → (fun k_ => ((P0_ k_ ∨ P1_3_ k_) ∨ w.heap.size ≤ k_) ∧ some k_ ≠ (v118 : Value).ownBlock ∧ k_ ≠ gb115) k_ from fun k_ hk => ⟨(.inr (Nat.le_trans (below_size (by repeat (first | (with_reducible first | exact HB.out | apply below_alloc | apply pw_below_drewN | apply below_drew1 | refine below_set ?_ GE115.out) | exact HB.out))) hk)), Kd.fresh' (Kd.N_lt (by (with_reducible repeat (first | apply Kd.N_alloc | apply Kd.N_drewN | apply Kd.N_drew)); exact HO119.out)) k_ hk, Kd.freshB (g := gb115) (o := .cells #[.int .i64 a1_0, .int .i64 a1_1, .int .i64 a1_2, .slice A1_3 l1_3.length c1_3, .int .i64 a1_4, .int .i64 a1_5, .int .i64 a1_6, .int .i64 a1_7, .int .i64 a1_8, .int .i64 a1_9] 25 (0, 0)) (by (with_reducible repeat (first | refine blk_drewN ?_ _ | refine blk_drew ?_ | refine blk_alloc ?_ _)); exact BK115.out) k_ hk⟩) _ (Nat.le_refl _)) (Below.refl _ _) (Nat.le_refl _) (by simp) ?_; (case hd => rfl); (case hg => rfl); (case hr => first | (go_simp; done) | (go_simp; rfl)); (case hp => exact (Reps.c10 (show Kd.FK k25 _ _ (⟨a1_0, a1_1, a1_2, l1_3, a1_4, a1_5, a1_6, a1_7, a1_8, a1_9⟩ : S25) [.int .i64 a1_0, .int .i64 a1_1, .int .i64 a1_2, .slice A1_3 l1_3.length c1_3, .int .i64 a1_4, .int .i64 a1_5, .int .i64 a1_6, .int .i64 a1_7, .int .i64 a1_8, .int .i64 a1_9] from (k25_mkF _ _ (⟨a1_0, a1_1, a1_2, l1_3, a1_4, a1_5, a1_6, a1_7, a1_8, a1_9⟩ : S25) (Kd.V_reads' (Kd.V_mono (ok' := (fun k_ => ((P0_ k_ ∨ P1_3_ k_) ∨ w.heap.size ≤ k_) ∧ some k_ ≠ (v118 : Value).ownBlock ∧ k_ ≠ gb115)) (HO1_3.out) (fun k_ hk => ⟨hk.1.1, ⟨hk.2, hk.1.2⟩⟩))).2.1 (Kd.V_F (Kd.V_mono (ok' := (fun k_ => ((P0_ k_ ∨ P1_3_ k_) ∨ w.heap.size ≤ k_) ∧ some k_ ≠ (v118 : Value).ownBlock ∧ k_ ≠ gb115)) (HO1_3.out) (fun k_ hk => ⟨hk.1.1, ⟨hk.2, hk.1.2⟩⟩))))) (Reps.none _ _)))
            intro v121 w13 ho14 hb hg_ hnew_
            clear hg_ hnew_
            (first | rw [← Ny120.out] at ho14 | (simp only [Int.reduceToNat] at ho14; rw [← Ny120.out] at ho14))
            have n0_ := Aside0.mk (Kd.V_elder' (by (with_reducible repeat (first | apply Kd.V_alloc | apply Kd.V_drewN | apply Kd.V_drew)); exact HO0.out) (Kd.N_base ho14) hb)
            have n1_ := Aside0.mk (Kd.V_elder' (by (with_reducible repeat (first | apply Kd.V_alloc | apply Kd.V_drewN | apply Kd.V_drew)); exact HO1_3.out) (Kd.N_base ho14) hb)
            have n2_ := Aside0.mk (Kd.N_elder' (by (with_reducible repeat (first | apply Kd.N_alloc | apply Kd.N_drewN | apply Kd.N_drew)); exact HO119.out) (Kd.N_base ho14) hb)
            have n3_ := Aside0.mk (Kd.N_lower ho14 (below_size (by repeat (first | (with_reducible first | exact HB.out | apply below_alloc | apply pw_below_drewN | apply below_drew1 | refine below_set ?_ GE115.out) | exact HB.out))))
            have n4_ := Aside0.mk (blk_below (g := gb115) (o := .cells #[.int .i64 a1_0, .int .i64 a1_1, .int .i64 a1_2, .slice A1_3 l1_3.length c1_3, .int .i64 a1_4, .int .i64 a1_5, .int .i64 a1_6, .int .i64 a1_7, .int .i64 a1_8, .int .i64 a1_9] 25 (0, 0)) (by (with_reducible repeat (first | refine blk_drewN ?_ _ | refine blk_drew ?_ | refine blk_alloc ?_ _)); exact BK115.out) hb)
            have n5_ := Aside0.mk (below_step (by repeat (first | (with_reducible first | exact HB.out | apply below_alloc | apply pw_below_drewN | apply below_drew1 | refine below_set ?_ GE115.out) | exact HB.out)) hb)
            clear HO0
            clear HO1_3
            clear HO119
            clear BK115
            clear HB
            have HO0 := n0_
            have HO1_3 := n1_
            have HO119 := n2_
            have HO122 := n3_
            have BK115 := n4_
            have HB := n5_
            clear n0_ n1_ n2_ n3_ n4_ n5_
            clear hb ho14
            refine hK.out _ _ ⟨(blk_cell BK115.out 0).trans rfl, (blk_cell BK115.out 1).trans rfl, (blk_cell BK115.out 2).trans rfl, (blk_cell BK115.out 3).trans rfl, (blk_cell BK115.out 4).trans rfl, (blk_cell BK115.out 5).trans rfl, (blk_cell BK115.out 6).trans rfl, (blk_cell BK115.out 7).trans rfl, (blk_cell BK115.out 8).trans rfl, (blk_cell BK115.out 9).trans rfl⟩ (fun hHeld => ?_)
            clear hK K
            refine norm_ (a' := ?_) ?_ ?_
            rotate_left
            · show Act.put _ (some 21) _ = _
              simp only [Act.put, List.setIfInBounds_toArray, List.set_cons_zero, List.set_cons_succ, i64_w, i32_w]
              rfl
            exact norm_ (by simp only [putAll, Act.put, List.setIfInBounds_toArray, List.set_cons_zero, List.set_cons_succ]) (hCont (v118, v121) _ ⟨hHeld, (by (with_reducible repeat (first | apply Kd.V_alloc | apply Kd.V_drewN | apply Kd.V_drew)); exact Kd.V_mono HO0.out (fun _ hk => ⟨hk.1.1.1, ⟨hk.1.2, ⟨hk.2, hk.1.1.2⟩⟩⟩)), (by (with_reducible repeat (first | apply Kd.N_alloc | apply Kd.N_drewN | apply Kd.N_drew)); exact Kd.N_mono HO119.out (fun _ hk => ⟨hk.1.1, ⟨hk.2, hk.1.2⟩⟩)), (by (with_reducible repeat (first | apply Kd.N_alloc | apply Kd.N_drewN | apply Kd.N_drew)); exact HO122.out), (by (with_reducible repeat (first | apply Kd.V_alloc | apply Kd.V_drewN | apply Kd.V_drew)); exact Kd.V_mono HO1_3.out (fun _ hk => ⟨hk.1.1.1, ⟨hk.1.2, ⟨hk.2, hk.1.1.2⟩⟩⟩)), (by (with_reducible repeat (first | refine blk_drewN ?_ _ | refine blk_drew ?_ | refine blk_alloc ?_ _)); exact BK115.out), (by repeat (first | (with_reducible first | exact HB.out | apply below_alloc | apply pw_below_drewN | apply below_drew1 | refine below_set ?_ GE115.out) | exact HB.out))⟩)
          · skip
            refine Kd.N_lit_step k25 _ 25 ?hg (N' := 21) ?hd (xs := ([(⟨a1_0, a1_1, a1_2, l1_3, a1_4, a1_5, a1_6, a1_7, a1_8, a1_9⟩ : S25)] : List (S25))) (inner := [.int .i64 a1_0, .int .i64 a1_1, .int .i64 a1_2, .slice A1_3 l1_3.length c1_3, .int .i64 a1_4, .int .i64 a1_5, .int .i64 a1_6, .int .i64 a1_7, .int .i64 a1_8, .int .i64 a1_9]) (ok := (fun k_ => ((P0_ k_ ∨ P1_3_ k_) ∨ w.heap.size ≤ k_) ∧ k_ ≠ gb115)) (okp := (fun k_ => ((P0_ k_ ∨ P1_3_ k_) ∨ w.heap.size ≤ k_) ∧ k_ ≠ gb115)) ?hr ?hp (fun _ hk => hk) ((show ∀ k_, w11.heap.size ≤ k_ → (fun k_ => ((P0_ k_ ∨ P1_3_ k_) ∨ w.heap.size ≤ k_) ∧ k_ ≠ gb115) k_ from fun k_ hk => ⟨(.inr (Nat.le_trans (below_size (by repeat (first | (with_reducible first | exact HB.out | apply below_alloc | apply pw_below_drewN | apply below_drew1 | refine below_set ?_ GE115.out) | exact HB.out))) hk)), Kd.freshB (g := gb115) (o := .cells #[.int .i64 a1_0, .int .i64 a1_1, .int .i64 a1_2, .slice A1_3 l1_3.length c1_3, .int .i64 a1_4, .int .i64 a1_5, .int .i64 a1_6, .int .i64 a1_7, .int .i64 a1_8, .int .i64 a1_9] 25 (0, 0)) (by (with_reducible repeat (first | refine blk_drewN ?_ _ | refine blk_drew ?_ | refine blk_alloc ?_ _)); exact BK115.out) k_ hk⟩) _ (Nat.le_refl _)) (Below.refl _ _) (Nat.le_refl _) (by simp) ?_; (case hd => rfl); (case hg => rfl); (case hr => first | (go_simp; done) | (go_simp; rfl)); (case hp => exact (Reps.c10 (show Kd.FK k25 _ _ (⟨a1_0, a1_1, a1_2, l1_3, a1_4, a1_5, a1_6, a1_7, a1_8, a1_9⟩ : S25) [.int .i64 a1_0, .int .i64 a1_1, .int .i64 a1_2, .slice A1_3 l1_3.length c1_3, .int .i64 a1_4, .int .i64 a1_5, .int .i64 a1_6, .int .i64 a1_7, .int .i64 a1_8, .int .i64 a1_9] from (k25_mkF _ _ (⟨a1_0, a1_1, a1_2, l1_3, a1_4, a1_5, a1_6, a1_7, a1_8, a1_9⟩ : S25) (Kd.V_reads' (Kd.V_mono (ok' := (fun k_ => ((P0_ k_ ∨ P1_3_ k_) ∨ w.heap.size ≤ k_) ∧ k_ ≠ gb115)) (HO1_3.out) (fun k_ hk => ⟨hk.1, hk.2⟩))).2.1 (Kd.V_F (Kd.V_mono (ok' := (fun k_ => ((P0_ k_ ∨ P1_3_ k_) ∨ w.heap.size ≤ k_) ∧ k_ ≠ gb115)) (HO1_3.out) (fun k_ hk => ⟨hk.1, hk.2⟩))))) (Reps.none _ _)))
            intro v121 w12 ho13 hb hg_ hnew_
            clear hg_ hnew_
            (first | rw [← Ny120.out] at ho13 | (simp only [Int.reduceToNat] at ho13; rw [← Ny120.out] at ho13))
            have n0_ := Aside0.mk (Kd.V_elder' (by (with_reducible repeat (first | apply Kd.V_alloc | apply Kd.V_drewN | apply Kd.V_drew)); exact HO0.out) (Kd.N_base ho13) hb)
            have n1_ := Aside0.mk (Kd.V_elder' (by (with_reducible repeat (first | apply Kd.V_alloc | apply Kd.V_drewN | apply Kd.V_drew)); exact HO1_3.out) (Kd.N_base ho13) hb)
            have n2_ := Aside0.mk (Kd.N_lower ho13 (below_size (by repeat (first | (with_reducible first | exact HB.out | apply below_alloc | apply pw_below_drewN | apply below_drew1 | refine below_set ?_ GE115.out) | exact HB.out))))
            have n3_ := Aside0.mk (blk_below (g := gb115) (o := .cells #[.int .i64 a1_0, .int .i64 a1_1, .int .i64 a1_2, .slice A1_3 l1_3.length c1_3, .int .i64 a1_4, .int .i64 a1_5, .int .i64 a1_6, .int .i64 a1_7, .int .i64 a1_8, .int .i64 a1_9] 25 (0, 0)) (by (with_reducible repeat (first | refine blk_drewN ?_ _ | refine blk_drew ?_ | refine blk_alloc ?_ _)); exact BK115.out) hb)
            have n4_ := Aside0.mk (below_step (by repeat (first | (with_reducible first | exact HB.out | apply below_alloc | apply pw_below_drewN | apply below_drew1 | refine below_set ?_ GE115.out) | exact HB.out)) hb)
            clear HO0
            clear HO1_3
            clear BK115
            clear HB
            have HO0 := n0_
            have HO1_3 := n1_
            have HO122 := n2_
            have BK115 := n3_
            have HB := n4_
            clear n0_ n1_ n2_ n3_ n4_
            clear hb ho13
            refine hK.out _ _ ⟨(blk_cell BK115.out 0).trans rfl, (blk_cell BK115.out 1).trans rfl, (blk_cell BK115.out 2).trans rfl, (blk_cell BK115.out 3).trans rfl, (blk_cell BK115.out 4).trans rfl, (blk_cell BK115.out 5).trans rfl, (blk_cell BK115.out 6).trans rfl, (blk_cell BK115.out 7).trans rfl, (blk_cell BK115.out 8).trans rfl, (blk_cell BK115.out 9).trans rfl⟩ (fun hHeld => ?_)
            clear hK K
            refine norm_ (a' := ?_) ?_ ?_
            rotate_left
            · show Act.put _ (some 21) _ = _
              simp only [Act.put, List.setIfInBounds_toArray, List.set_cons_zero, List.set_cons_succ, i64_w, i32_w]
              rfl
            refine one_ (i := 1) (N := some 19) #[true, true, true, true, false, false] rfl rfl (by kernel_rfl) (by decide) (fun K hK => ?_)
            refine goes_ Try.func46 (by kernel_rfl) rfl #[.slice A0 l0.length c0] (by rfl) rfl rfl (by (try simp only [List.map_toArray, List.map_cons, List.map_nil]); first | done | rfl | (simp only [List.length_drop, List.length_take]; rfl)) ?_
            with_reducible refine (api_Artifact_46.calls (fun k_ => ((((P0_ k_ ∨ P1_3_ k_) ∨ w.heap.size ≤ k_) ∧ k_ ≠ gb115) ∧ some k_ ≠ (v121 : Value).ownBlock)) _ _ l0 t117 _ ?side1 A5.out).mono ?_
            (case side1 => exact HO0.out)
            rintro e w14 ⟨v118, rfl, ho0, hb⟩
            refine ⟨_, rfl, ?_⟩
            have n0_ := Aside0.mk (Kd.V_elder' (by (with_reducible repeat (first | apply Kd.V_alloc | apply Kd.V_drewN | apply Kd.V_drew)); exact HO0.out) (Kd.N_base ho0) hb)
            have n1_ := Aside0.mk (Kd.V_elder' (by (with_reducible repeat (first | apply Kd.V_alloc | apply Kd.V_drewN | apply Kd.V_drew)); exact HO1_3.out) (Kd.N_base ho0) hb)
            have n2_ := Aside0.mk (Kd.N_elder' (by (with_reducible repeat (first | apply Kd.N_alloc | apply Kd.N_drewN | apply Kd.N_drew)); exact HO122.out) (Kd.N_base ho0) hb)
            have n3_ := Aside0.mk (Kd.N_lower (Kd.N_mono (ok' := fun k_ => ((P0_ k_ ∨ P1_3_ k_) ∨ w.heap.size ≤ k_) ∧ some k_ ≠ (v121 : Value).ownBlock ∧ k_ ≠ gb115) ho0 (fun k_ hk_ => ⟨Or.elim hk_ (fun hs_ => hs_.1.1) (fun hn_ => (.inr (Nat.le_trans (below_size (by repeat (first | (with_reducible first | exact HB.out | apply below_alloc | apply pw_below_drewN | apply below_drew1 | refine below_set ?_ GE115.out) | exact HB.out))) hn_))), Or.elim hk_ (fun hs_ => hs_.2) (fun hn_ => (Kd.fresh' (Kd.N_lt (by (with_reducible repeat (first | apply Kd.N_alloc | apply Kd.N_drewN | apply Kd.N_drew)); exact HO122.out)) k_ hn_)), Or.elim hk_ (fun hs_ => hs_.1.2) (fun hn_ => (Kd.freshB (g := gb115) (o := .cells #[.int .i64 a1_0, .int .i64 a1_1, .int .i64 a1_2, .slice A1_3 l1_3.length c1_3, .int .i64 a1_4, .int .i64 a1_5, .int .i64 a1_6, .int .i64 a1_7, .int .i64 a1_8, .int .i64 a1_9] 25 (0, 0)) (by (with_reducible repeat (first | refine blk_drewN ?_ _ | refine blk_drew ?_ | refine blk_alloc ?_ _)); exact BK115.out) k_ hn_))⟩)) (below_size (by repeat (first | (with_reducible first | exact HB.out | apply below_alloc | apply pw_below_drewN | apply below_drew1 | refine below_set ?_ GE115.out) | exact HB.out))))
            have n4_ := Aside0.mk (blk_below (g := gb115) (o := .cells #[.int .i64 a1_0, .int .i64 a1_1, .int .i64 a1_2, .slice A1_3 l1_3.length c1_3, .int .i64 a1_4, .int .i64 a1_5, .int .i64 a1_6, .int .i64 a1_7, .int .i64 a1_8, .int .i64 a1_9] 25 (0, 0)) (by (with_reducible repeat (first | refine blk_drewN ?_ _ | refine blk_drew ?_ | refine blk_alloc ?_ _)); exact BK115.out) hb)
            have n5_ := Aside0.mk (below_step (by repeat (first | (with_reducible first | exact HB.out | apply below_alloc | apply pw_below_drewN | apply below_drew1 | refine below_set ?_ GE115.out) | exact HB.out)) hb)
            clear HO0
            clear HO1_3
            clear HO122
            clear BK115
            clear HB
            have HO0 := n0_
            have HO1_3 := n1_
            have HO122 := n2_
            have HO119 := n3_
            have BK115 := n4_
            have HB := n5_
            clear n0_ n1_ n2_ n3_ n4_ n5_
            (try clear hb)
            (try clear hb2)
            (try clear hk)
            (try clear hi)
            (try clear ho0)
            refine hK.out _ _ ⟨(blk_cell BK115.out 0).trans rfl, (blk_cell BK115.out 1).trans rfl, (blk_cell BK115.out 2).trans rfl, (blk_cell BK115.out 3).trans rfl, (blk_cell BK115.out 4).trans rfl, (blk_cell BK115.out 5).trans rfl, (blk_cell BK115.out 6).trans rfl, (blk_cell BK115.out 7).trans rfl, (blk_cell BK115.out 8).trans rfl, (blk_cell BK115.out 9).trans rfl⟩ (fun hHeld => ?_)
            clear hK K
            refine norm_ (a' := ?_) ?_ ?_
            rotate_left
            · show Act.put _ (some 19) _ = _
              simp only [Act.put, List.setIfInBounds_toArray, List.set_cons_zero, List.set_cons_succ, i64_w, i32_w]
              rfl
            exact norm_ (by simp only [putAll, Act.put, List.setIfInBounds_toArray, List.set_cons_zero, List.set_cons_succ]) (hCont (v118, v121) _ ⟨hHeld, (by (with_reducible repeat (first | apply Kd.V_alloc | apply Kd.V_drewN | apply Kd.V_drew)); exact Kd.V_mono HO0.out (fun _ hk => ⟨hk.1.1.1, ⟨hk.2, ⟨hk.1.2, hk.1.1.2⟩⟩⟩)), (by (with_reducible repeat (first | apply Kd.N_alloc | apply Kd.N_drewN | apply Kd.N_drew)); exact HO119.out), (by (with_reducible repeat (first | apply Kd.N_alloc | apply Kd.N_drewN | apply Kd.N_drew)); exact Kd.N_mono HO122.out (fun _ hk => ⟨hk.1.1, ⟨hk.2, hk.1.2⟩⟩)), (by (with_reducible repeat (first | apply Kd.V_alloc | apply Kd.V_drewN | apply Kd.V_drew)); exact Kd.V_mono HO1_3.out (fun _ hk => ⟨hk.1.1.1, ⟨hk.2, ⟨hk.1.2, hk.1.1.2⟩⟩⟩)), (by (with_reducible repeat (first | refine blk_drewN ?_ _ | refine blk_drew ?_ | refine blk_alloc ?_ _)); exact BK115.out), (by repeat (first | (with_reducible first | exact HB.out | apply below_alloc | apply pw_below_drewN | apply below_drew1 | refine below_set ?_ GE115.out) | exact HB.out))⟩)
        rintro ⟨v118, v121⟩ w15 ⟨hS_, h0_, h1_, h2_, h3_, h4_, h5_⟩
        have n0_ : Aside0 (Kd.V k25 25 w15 w.heap.size (fun k_ => ((P0_ k_ ∨ P1_3_ k_) ∨ w.heap.size ≤ k_) ∧ some k_ ≠ (v118 : Value).ownBlock ∧ some k_ ≠ (v121 : Value).ownBlock ∧ k_ ≠ gb115) (.slice A0 l0.length c0) l0) := ⟨h0_⟩
        have n1_ : Aside0 (Kd.N k25 25 w15 w.heap.size (fun k_ => ((P0_ k_ ∨ P1_3_ k_) ∨ w.heap.size ≤ k_) ∧ some k_ ≠ (v121 : Value).ownBlock ∧ k_ ≠ gb115) v118 t117) := ⟨h1_⟩
        have n2_ : Aside0 (Kd.N k25 25 w15 w.heap.size (fun k_ => ((P0_ k_ ∨ P1_3_ k_) ∨ w.heap.size ≤ k_) ∧ some k_ ≠ (v118 : Value).ownBlock ∧ k_ ≠ gb115) v121 y120) := ⟨h2_⟩
        have n3_ : Aside0 (Kd.V (Kd.int .i64) 3 w15 w.heap.size (fun k_ => ((P0_ k_ ∨ P1_3_ k_) ∨ w.heap.size ≤ k_) ∧ some k_ ≠ (v118 : Value).ownBlock ∧ some k_ ≠ (v121 : Value).ownBlock ∧ k_ ≠ gb115) (.slice A1_3 l1_3.length c1_3) l1_3) := ⟨h3_⟩
        have n4_ : Aside0 (w15.heap[gb115]? = some (.cells #[.int .i64 a1_0, .int .i64 a1_1, .int .i64 a1_2, .slice A1_3 l1_3.length c1_3, .int .i64 a1_4, .int .i64 a1_5, .int .i64 a1_6, .int .i64 a1_7, .int .i64 a1_8, .int .i64 a1_9] 25 (0, 0))) := ⟨h4_⟩
        have n5_ : Aside0 (Below w.heap.size w w15) := ⟨h5_⟩
        clear HO0
        clear HO1_3
        clear BK115
        clear HB
        clear h0_ h1_ h2_ h3_ h4_ h5_
        have HO0 := n0_
        have HO119 := n1_
        have HO122 := n2_
        have HO1_3 := n3_
        have BK115 := n4_
        have HB := n5_
        clear n0_ n1_ n2_ n3_ n4_ n5_
        have hHeld : w15.cell? ⟨gb115, 0, none⟩ = some (.int .i64 a1_0) ∧ w15.cell? ⟨gb115, 1, none⟩ = some (.int .i64 a1_1) ∧ w15.cell? ⟨gb115, 2, none⟩ = some (.int .i64 a1_2) ∧ w15.cell? ⟨gb115, 3, none⟩ = some (.slice A1_3 l1_3.length c1_3) ∧ w15.cell? ⟨gb115, 4, none⟩ = some (.int .i64 a1_4) ∧ w15.cell? ⟨gb115, 5, none⟩ = some (.int .i64 a1_5) ∧ w15.cell? ⟨gb115, 6, none⟩ = some (.int .i64 a1_6) ∧ w15.cell? ⟨gb115, 7, none⟩ = some (.int .i64 a1_7) ∧ w15.cell? ⟨gb115, 8, none⟩ = some (.int .i64 a1_8) ∧ w15.cell? ⟨gb115, 9, none⟩ = some (.int .i64 a1_9) := hS_
        obtain ⟨Ao17, co17, eo17⟩ := Kd.N_slice HO122.out
        (first | subst eo17 | (injection eo17 with f1_ f2_ f3_; have f4_ := f1_.symm; have f5_ := f3_.symm; clear f1_ f2_ f3_; subst f4_; subst f5_))
        refine norm_ (a' := ?_) ?_ ?_
        rotate_left
        · simp only [putAll, Act.put, List.setIfInBounds_toArray, List.set_cons_zero, List.set_cons_succ]
          rfl
        refine one_ (i := 4) (N := some 22) #[true, true, true, true, true, false] rfl rfl (by kernel_rfl) (by decide) (fun K hK => ?_)
        refine Kd.N_append_rows_step k25 (w0 := w) w.heap.size (by rfl) (.tmp 19) (.tmp 21) 22 25 (.agg #[(.int .i64 0), (.int .i64 0), (.int .i64 0), (.slice none 0 0), (.int .i64 0), (.int .i64 0), (.int .i64 0), (.int .i64 0), (.int .i64 0), (.int .i64 0)]) 96 rfl Try.underlying22 info25 rfl (by decide) (by omega) v118 t117 y120 _ _ _ (fun k_ => ((P0_ k_ ∨ P1_3_ k_) ∨ w.heap.size ≤ k_) ∧ k_ ≠ gb115) (fun k_ => ((fun k_ => ((P0_ k_ ∨ P1_3_ k_) ∨ w.heap.size ≤ k_) ∧ k_ ≠ gb115)) k_ ∧ some k_ ≠ (v118 : Value).ownBlock) rfl rfl ?aO ?aR (fun _ hk => hk) ?aF ?aB ?aS ?aL ?_
        (case aR => exact (by skip; exact Kd.N_F (Kd.N_mono (ok' := (fun k_ => ((fun k_ => ((P0_ k_ ∨ P1_3_ k_) ∨ w.heap.size ≤ k_) ∧ k_ ≠ gb115)) k_ ∧ some k_ ≠ (v118 : Value).ownBlock)) (HO122.out) (fun k_ hk => ⟨⟨hk.1, hk.2.2⟩, hk.2.1⟩))))
        (case aB => exact (by repeat (first | (with_reducible first | exact HB.out | apply below_alloc | apply pw_below_drewN | apply below_drew1 | refine below_set ?_ GE115.out) | exact HB.out)))
        (case aF => exact (fun k_ hk => ⟨(.inr (Nat.le_trans (below_size (by repeat (first | (with_reducible first | exact HB.out | apply below_alloc | apply pw_below_drewN | apply below_drew1 | refine below_set ?_ GE115.out) | exact HB.out))) hk)), Kd.freshB (g := gb115) (o := .cells #[.int .i64 a1_0, .int .i64 a1_1, .int .i64 a1_2, .slice A1_3 l1_3.length c1_3, .int .i64 a1_4, .int .i64 a1_5, .int .i64 a1_6, .int .i64 a1_7, .int .i64 a1_8, .int .i64 a1_9] 25 (0, 0)) (by (with_reducible repeat (first | refine blk_drewN ?_ _ | refine blk_drew ?_ | refine blk_alloc ?_ _)); exact BK115.out) k_ hk⟩))
        (case aO => exact (by (with_reducible repeat (first | apply Kd.N_alloc | apply Kd.N_drewN | apply Kd.N_drew)); exact Kd.N_mono HO119.out (fun _ hk => ⟨hk.1, hk.2.2⟩)))
        (case aS => exact (below_size (by repeat (first | (with_reducible first | exact HB.out | apply below_alloc | apply pw_below_drewN | apply below_drew1 | refine below_set ?_ GE115.out) | exact HB.out))))
        (case aL => have := LMc6.out; omega)
        intro v124 w16 ho hb hg hat
        rw [← Ny123.out] at ho
        have n0_ := Aside0.mk (Kd.V_afterv (ok := (fun k_ => ((P0_ k_ ∨ P1_3_ k_) ∨ w.heap.size ≤ k_) ∧ some k_ ≠ (.slice Ao17 y120.length co17 : Value).ownBlock ∧ k_ ≠ gb115)) (by (with_reducible repeat (first | apply Kd.V_alloc | apply Kd.V_drewN | apply Kd.V_drew)); exact Kd.V_mono HO0.out (fun _ hk => ⟨⟨hk.1, ⟨hk.2.2.1, hk.2.2.2⟩⟩, hk.2.1⟩)) hg hat)
        have n1_ := Aside0.mk (Kd.V_afterv (ok := (fun k_ => ((P0_ k_ ∨ P1_3_ k_) ∨ w.heap.size ≤ k_) ∧ some k_ ≠ (.slice Ao17 y120.length co17 : Value).ownBlock ∧ k_ ≠ gb115)) (by (with_reducible repeat (first | apply Kd.V_alloc | apply Kd.V_drewN | apply Kd.V_drew)); exact Kd.V_mono HO1_3.out (fun _ hk => ⟨⟨hk.1, ⟨hk.2.2.1, hk.2.2.2⟩⟩, hk.2.1⟩)) hg hat)
        have n2_ := Aside0.mk (blk_grown (g := gb115) (o := .cells #[.int .i64 a1_0, .int .i64 a1_1, .int .i64 a1_2, .slice A1_3 l1_3.length c1_3, .int .i64 a1_4, .int .i64 a1_5, .int .i64 a1_6, .int .i64 a1_7, .int .i64 a1_8, .int .i64 a1_9] 25 (0, 0)) (by (with_reducible repeat (first | refine blk_drewN ?_ _ | refine blk_drew ?_ | refine blk_alloc ?_ _)); exact BK115.out) hg (Kd.N_away HO119.out (fun _ hk => hk.2.2)))
        have n3_ := Aside0.mk (Kd.N_afterv (ok := (fun k_ => ((P0_ k_ ∨ P1_3_ k_) ∨ w.heap.size ≤ k_) ∧ k_ ≠ gb115)) (by (with_reducible repeat (first | apply Kd.N_alloc | apply Kd.N_drewN | apply Kd.N_drew)); exact Kd.N_mono HO122.out (fun _ hk => ⟨⟨hk.1, hk.2.2⟩, hk.2.1⟩)) hg hat)
        have n4_ := Aside0.mk (hb)
        have n5_ := Aside0.mk (ho)
        clear HO0
        clear HO1_3
        clear BK115
        clear HO122
        clear HB
        clear HO119
        have HO0 := n0_
        have HO1_3 := n1_
        have BK115 := n2_
        have HO122 := n3_
        have HB := n4_
        have HO125 := n5_
        clear n0_ n1_ n2_ n3_ n4_ n5_
        clear ho hb hg hat
        refine hK.out _ _ ⟨(blk_cell BK115.out 0).trans rfl, (blk_cell BK115.out 1).trans rfl, (blk_cell BK115.out 2).trans rfl, (blk_cell BK115.out 3).trans rfl, (blk_cell BK115.out 4).trans rfl, (blk_cell BK115.out 5).trans rfl, (blk_cell BK115.out 6).trans rfl, (blk_cell BK115.out 7).trans rfl, (blk_cell BK115.out 8).trans rfl, (blk_cell BK115.out 9).trans rfl⟩ (fun hHeld => ?_)
        clear hK K
        refine norm_ (a' := ?_) ?_ ?_
        rotate_left
        · show Act.put _ (some 22) _ = _
          simp only [Act.put, List.setIfInBounds_toArray, List.set_cons_zero, List.set_cons_succ, i64_w, i32_w]
          rfl
        refine pure_ (i := 5) (N := some 7) (v := ?_) (a' := ?_) #[true, true, true, true, true, true] rfl rfl (by kernel_rfl) (fun _ _ _ h => h) (Or.inl ⟨by rfl, ?_⟩) ?_ ?_
        rotate_left
        · intro w'
          go_simp
          with_reducible rfl
        rotate_left
        · simp only [Act.put, List.setIfInBounds_toArray, List.set_cons_zero, List.set_cons_succ, i64_w, i32_w]
          rfl
        refine done_ (by kernel_rfl) ?_
        obtain ⟨Ao18, co18, eo18⟩ := Kd.N_slice HO125.out
        subst eo18
        try go_wp2_with (first | ((with_reducible refine gate_callee (f := 21) rfl ?_); refine goesL_ (some 24) rfl rfl Try.func21 (by kernel_rfl) rfl #[.slice Ao18 y123.length co18] rfl (by (try simp only [List.map_toArray, List.map_cons, List.map_nil]); first | done | rfl | (simp only [List.length_drop, List.length_take]; rfl)) ?_; (with_reducible refine (trace_Check.calls _ _ y123 t126 _ ?side1 ?side2 A7.out).mono ?_); (case side1 => repeat (first | exact (Kd.N_reads' HO125.out).2.2 | (with_reducible refine Kd.C_alloc ?_ _) | (with_reducible refine Kd.C_drewN ?_ _) | (with_reducible refine Kd.C_drew ?_))); (case side2 => exact (Kd.N_reads' HO125.out).2.1); rintro e w19 ⟨rfl, hb⟩; refine ⟨_, rfl, ?_⟩; have n0_ := Aside0.mk (Kd.V_below (by (with_reducible repeat (first | apply Kd.V_alloc | apply Kd.V_drewN | apply Kd.V_drew)); exact HO0.out) hb); have n1_ := Aside0.mk (Kd.V_below (by (with_reducible repeat (first | apply Kd.V_alloc | apply Kd.V_drewN | apply Kd.V_drew)); exact HO1_3.out) hb); have n2_ := Aside0.mk (Kd.N_below (by (with_reducible repeat (first | apply Kd.N_alloc | apply Kd.N_drewN | apply Kd.N_drew)); exact HO122.out) hb); have n3_ := Aside0.mk (Kd.N_below (by (with_reducible repeat (first | apply Kd.N_alloc | apply Kd.N_drewN | apply Kd.N_drew)); exact HO125.out) hb); have n4_ := Aside0.mk (blk_below (g := gb115) (o := .cells #[.int .i64 a1_0, .int .i64 a1_1, .int .i64 a1_2, .slice A1_3 l1_3.length c1_3, .int .i64 a1_4, .int .i64 a1_5, .int .i64 a1_6, .int .i64 a1_7, .int .i64 a1_8, .int .i64 a1_9] 25 (0, 0)) (by (with_reducible repeat (first | refine blk_drewN ?_ _ | refine blk_drew ?_ | refine blk_alloc ?_ _)); exact BK115.out) hb); have n5_ := Aside0.mk (below_step (by repeat (first | (with_reducible first | exact HB.out | apply below_alloc | apply pw_below_drewN | apply below_drew1 | refine below_set ?_ GE115.out) | exact HB.out)) hb); clear HO0; clear HO1_3; clear HO122; clear HO125; clear BK115; clear HB; have HO0 := n0_; have HO1_3 := n1_; have HO122 := n2_; have HO125 := n3_; have BK115 := n4_; have HB := n5_; clear n0_ n1_ n2_ n3_ n4_ n5_; (try clear hb); (try clear hb2); (try clear hk); (try clear hi)))
        go_ret2
        exact ⟨_, by first | rfl | (simp [errW_none, errW_some] <;> rfl) | (simp [*, errW_none, errW_some] <;> rfl), by (with_reducible repeat (first | apply Kd.N_alloc | apply Kd.N_drewN | apply Kd.N_drew)); exact Kd.N_mono HO125.out (fun _ hk => hk.1), by repeat (first | (with_reducible first | exact HB.out | apply below_alloc | apply pw_below_drewN | apply below_drew1 | refine below_set ?_ GE115.out) | exact HB.out)⟩
      · rw [if_neg c8] at H
        have c8b0 : (t126 == 0) = false := beq_eq_false_iff_ne.mpr c8
        have c8b1 : (t126 != 0) = true := bne_iff_ne.mpr c8
        simp only [Option.some.injEq, Prod.mk.injEq] at H
        obtain ⟨rfl, rfl⟩ := H
        go_enter Try.func11, Try.ntmps11
        try go_wp2_with (first | ((with_reducible refine gate_dst (N := 3) rfl ?_); refine box_event ?hg (N := 3) ?hd (cs := #[.int .i64 a1_0, .int .i64 a1_1, .int .i64 a1_2, .slice A1_3 l1_3.length c1_3, .int .i64 a1_4, .int .i64 a1_5, .int .i64 a1_6, .int .i64 a1_7, .int .i64 a1_8, .int .i64 a1_9]) (t := 25) ?hr ?_; (case hd => rfl); (case hg => rfl); (case hr => first | (go_simp; done) | (go_simp; rfl)); intro gb115 hg w20 hbox hb; have n0_ := Aside0.mk (Kd.V_below (Kd.V_elderB (by (with_reducible repeat (first | apply Kd.V_alloc | apply Kd.V_drewN | apply Kd.V_drew)); exact HO0.out) gb115 (Nat.le_of_eq hg.symm)) hb); have n1_ := Aside0.mk (Kd.V_below (Kd.V_elderB (by (with_reducible repeat (first | apply Kd.V_alloc | apply Kd.V_drewN | apply Kd.V_drew)); exact HO1_3.out) gb115 (Nat.le_of_eq hg.symm)) hb); have n2_ := Aside0.mk (below_step (by repeat (first | (with_reducible first | exact HB.out | apply below_alloc | apply pw_below_drewN | apply below_drew1) | exact HB.out)) hb); have n3_ := Aside0.mk (hbox); have n4_ := Aside0.mk ((by rw [hg]; exact (below_size (by repeat (first | (with_reducible first | exact HB.out | apply below_alloc | apply pw_below_drewN | apply below_drew1) | exact HB.out))) : w.heap.size ≤ gb115)); have n5_ := Aside0.mk ((by rw [hg]; exact (below_size (by repeat (first | (with_reducible first | exact HB.out | apply below_alloc | apply pw_below_drewN | apply below_drew1) | exact HB.out))) : w.heap.size ≤ gb115)); clear HO0; clear HO1_3; clear HB; have HO0 := n0_; have HO1_3 := n1_; have HB := n2_; have BK115 := n3_; have GW115 := n4_; have GE115 := n5_; clear n0_ n1_ n2_ n3_ n4_ n5_; clear hb hbox hg) | ((with_reducible refine gate_callee (f := 21) rfl ?_); refine goesL_ (some 10) rfl rfl Try.func21 (by kernel_rfl) rfl #[.slice A0 l0.length c0] rfl (by (try simp only [List.map_toArray, List.map_cons, List.map_nil]); first | done | rfl | (simp only [List.length_drop, List.length_take]; rfl)) ?_; (with_reducible refine (trace_Check.calls _ _ l0 t116 _ ?side1 ?side2 A3.out).mono ?_); (case side1 => repeat (first | exact (Kd.V_reads' HO0.out).2.2 | (with_reducible refine Kd.C_alloc ?_ _) | (with_reducible refine Kd.C_drewN ?_ _) | (with_reducible refine Kd.C_drew ?_))); (case side2 => exact (Kd.V_reads' HO0.out).2.1); rintro e w21 ⟨rfl, hb⟩; refine ⟨_, rfl, ?_⟩; have n0_ := Aside0.mk (Kd.V_below (by (with_reducible repeat (first | apply Kd.V_alloc | apply Kd.V_drewN | apply Kd.V_drew)); exact HO0.out) hb); have n1_ := Aside0.mk (Kd.V_below (by (with_reducible repeat (first | apply Kd.V_alloc | apply Kd.V_drewN | apply Kd.V_drew)); exact HO1_3.out) hb); have n2_ := Aside0.mk (blk_below (g := gb115) (o := .cells #[.int .i64 a1_0, .int .i64 a1_1, .int .i64 a1_2, .slice A1_3 l1_3.length c1_3, .int .i64 a1_4, .int .i64 a1_5, .int .i64 a1_6, .int .i64 a1_7, .int .i64 a1_8, .int .i64 a1_9] 25 (0, 0)) (by (with_reducible repeat (first | refine blk_drewN ?_ _ | refine blk_drew ?_ | refine blk_alloc ?_ _)); exact BK115.out) hb); have n3_ := Aside0.mk (below_step (by repeat (first | (with_reducible first | exact HB.out | apply below_alloc | apply pw_below_drewN | apply below_drew1 | refine below_set ?_ GE115.out) | exact HB.out)) hb); clear HO0; clear HO1_3; clear BK115; clear HB; have HO0 := n0_; have HO1_3 := n1_; have BK115 := n2_; have HB := n3_; clear n0_ n1_ n2_ n3_; (try clear hb); (try clear hb2); (try clear hk); (try clear hi); have hc_ := blk_cell BK115.out))
        clear hc_
        refine (slices_Clone_int_int.calls _ _ l1_3 l1_3 _ ?side1 ?side2 HCL.out).mono ?_
        case side1 => exact (Kd.V_reads' HO1_3.out).2.2
        case side2 => exact (Kd.V_reads' HO1_3.out).2.1
        rintro e wz_ ⟨vz_, rfl, hoz_, hbz_⟩
        obtain ⟨A1_3, c1_3, rfl⟩ := Kd.V_slice (Kd.N_V (base' := w.heap.size) (Kd.R_N hoz_))
        have n0_ := Aside0.mk (Kd.V_below HO0.out hbz_)
        have n1_ := Aside0.mk (Kd.V_mono (ok' := fun k_ => ((P0_ k_ ∨ P1_3_ k_) ∨ w.heap.size ≤ k_) ∧ k_ ≠ gb115) (Kd.N_V (base' := w.heap.size) (Kd.R_N (Kd.R_tight rfl hoz_))) (fun k_ hk_ => by
          have h1_ := Kd.N_base (Kd.R_N hoz_) k_ hk_.symm
          have h2_ := below_size HB.out
          have h3_ := blk_lt BK115.out
          exact ⟨.inr (Nat.le_trans h2_ h1_), by omega⟩))
        have n2_ := Aside0.mk (blk_below BK115.out hbz_)
        have n3_ := Aside0.mk (below_step HB.out hbz_)
        clear HO0 HO1_3 BK115 HB hoz_ hbz_
        have HO0 := n0_
        have HO1_3 := n1_
        have BK115 := n2_
        have HB := n3_
        clear n0_ n1_ n2_ n3_
        have hc_ := blk_cell BK115.out
        have hf_ := blk_frozen BK115.out
        go_wp2_with fail
        clear hc_ hf_
        have n0_ := Aside0.mk (Kd.V_far (p := ⟨gb115, 3, none⟩) HO0.out (fun k hk => hk.2) (.slice A1_3 l1_3.length c1_3))
        have n1_ := Aside0.mk (Kd.V_far (p := ⟨gb115, 3, none⟩) HO1_3.out (fun k hk => hk.2) (.slice A1_3 l1_3.length c1_3))
        have n2_ := Aside0.mk (blk_put (cs' := #[.int .i64 a1_0, .int .i64 a1_1, .int .i64 a1_2, .slice A1_3 l1_3.length c1_3, .int .i64 a1_4, .int .i64 a1_5, .int .i64 a1_6, .int .i64 a1_7, .int .i64 a1_8, .int .i64 a1_9]) BK115.out 3 (.slice A1_3 l1_3.length c1_3) rfl)
        have n3_ := Aside0.mk (below_set (j := 3) (v := .slice A1_3 l1_3.length c1_3) HB.out GE115.out)
        clear HO0 HO1_3 BK115 HB
        have HO0 := n0_
        have HO1_3 := n1_
        have BK115 := n2_
        have HB := n3_
        clear n0_ n1_ n2_ n3_
        generalize wz_.setCell ⟨gb115, 3, none⟩ (.slice A1_3 l1_3.length c1_3) = w21 at *
        have n0_ := Aside0.mk (Kd.V_drew HO0.out)
        have n1_ := Aside0.mk (Kd.V_drew HO1_3.out)
        have n2_ := Aside0.mk (blk_drew BK115.out)
        have n3_ := Aside0.mk (below_drew1 HB.out)
        clear HO0
        clear HO1_3
        clear BK115
        clear HB
        have HO0 := n0_
        have HO1_3 := n1_
        have BK115 := n2_
        have HB := n3_
        clear n0_ n1_ n2_ n3_
        refine start_ (n := 6) (S := fun w' => w'.cell? ⟨gb115, 0, none⟩ = some (.int .i64 a1_0) ∧ w'.cell? ⟨gb115, 1, none⟩ = some (.int .i64 a1_1) ∧ w'.cell? ⟨gb115, 2, none⟩ = some (.int .i64 a1_2) ∧ w'.cell? ⟨gb115, 3, none⟩ = some (.slice A1_3 l1_3.length c1_3) ∧ w'.cell? ⟨gb115, 4, none⟩ = some (.int .i64 a1_4) ∧ w'.cell? ⟨gb115, 5, none⟩ = some (.int .i64 a1_5) ∧ w'.cell? ⟨gb115, 6, none⟩ = some (.int .i64 a1_6) ∧ w'.cell? ⟨gb115, 7, none⟩ = some (.int .i64 a1_7) ∧ w'.cell? ⟨gb115, 8, none⟩ = some (.int .i64 a1_8) ∧ w'.cell? ⟨gb115, 9, none⟩ = some (.int .i64 a1_9)) (ds := []) #[false, false, false, false, false, false] (by kernel_rfl) rfl rfl ⟨(blk_cell BK115.out 0).trans rfl, (blk_cell BK115.out 1).trans rfl, (blk_cell BK115.out 2).trans rfl, (blk_cell BK115.out 3).trans rfl, (blk_cell BK115.out 4).trans rfl, (blk_cell BK115.out 5).trans rfl, (blk_cell BK115.out 6).trans rfl, (blk_cell BK115.out 7).trans rfl, (blk_cell BK115.out 8).trans rfl, (blk_cell BK115.out 9).trans rfl⟩ (fun hHeld => ?_)
        generalize w21.drew = w22 at HO0 HO1_3 BK115 HB hHeld ⊢
        refine pure_ (i := 0) (N := some 18) (v := ?_) (a' := ?_) #[true, false, false, false, false, false] rfl rfl (by kernel_rfl) (fun _ _ _ h => h) (Or.inl ⟨by rfl, ?_⟩) ?_ ?_
        rotate_left
        · intro w'
          go_simp
          with_reducible rfl
        rotate_left
        · simp only [Act.put, List.setIfInBounds_toArray, List.set_cons_zero, List.set_cons_succ, i64_w, i32_w]
          rfl
        refine take_ (i := 2) (N := some 20) (v := ?_) (a' := ?_) #[true, false, true, false, false, false] rfl rfl (by kernel_rfl) (fun _ _ _ h => h) (Or.inl ⟨by rfl, ?_⟩) hHeld ?_ ?_
        rotate_left
        · rintro w' ⟨s0, s1, s2, s3, s4, s5, s6, s7, s8, s9⟩
          go_simp
          with_reducible rfl
        rotate_left
        · simp only [Act.put, List.setIfInBounds_toArray, List.set_cons_zero, List.set_cons_succ, i64_w, i32_w]
          rfl
        refine join_ (σ := Value × Value) 2 #[true, true, true, true, false, false] (fun s_ => [(19, s_.1), (21, s_.2)]) (fun s_ w' => (w'.cell? ⟨gb115, 0, none⟩ = some (.int .i64 a1_0) ∧ w'.cell? ⟨gb115, 1, none⟩ = some (.int .i64 a1_1) ∧ w'.cell? ⟨gb115, 2, none⟩ = some (.int .i64 a1_2) ∧ w'.cell? ⟨gb115, 3, none⟩ = some (.slice A1_3 l1_3.length c1_3) ∧ w'.cell? ⟨gb115, 4, none⟩ = some (.int .i64 a1_4) ∧ w'.cell? ⟨gb115, 5, none⟩ = some (.int .i64 a1_5) ∧ w'.cell? ⟨gb115, 6, none⟩ = some (.int .i64 a1_6) ∧ w'.cell? ⟨gb115, 7, none⟩ = some (.int .i64 a1_7) ∧ w'.cell? ⟨gb115, 8, none⟩ = some (.int .i64 a1_8) ∧ w'.cell? ⟨gb115, 9, none⟩ = some (.int .i64 a1_9)) ∧ (Kd.V k25 25 w' w.heap.size (fun k_ => ((P0_ k_ ∨ P1_3_ k_) ∨ w.heap.size ≤ k_) ∧ some k_ ≠ (s_.1 : Value).ownBlock ∧ some k_ ≠ (s_.2 : Value).ownBlock ∧ k_ ≠ gb115) (.slice A0 l0.length c0) l0) ∧ (Kd.N k25 25 w' w.heap.size (fun k_ => ((P0_ k_ ∨ P1_3_ k_) ∨ w.heap.size ≤ k_) ∧ some k_ ≠ (s_.2 : Value).ownBlock ∧ k_ ≠ gb115) s_.1 t117) ∧ (Kd.N k25 25 w' w.heap.size (fun k_ => ((P0_ k_ ∨ P1_3_ k_) ∨ w.heap.size ≤ k_) ∧ some k_ ≠ (s_.1 : Value).ownBlock ∧ k_ ≠ gb115) s_.2 y120) ∧ (Kd.V (Kd.int .i64) 3 w' w.heap.size (fun k_ => ((P0_ k_ ∨ P1_3_ k_) ∨ w.heap.size ≤ k_) ∧ some k_ ≠ (s_.1 : Value).ownBlock ∧ some k_ ≠ (s_.2 : Value).ownBlock ∧ k_ ≠ gb115) (.slice A1_3 l1_3.length c1_3) l1_3) ∧ (w'.heap[gb115]? = some (.cells #[.int .i64 a1_0, .int .i64 a1_1, .int .i64 a1_2, .slice A1_3 l1_3.length c1_3, .int .i64 a1_4, .int .i64 a1_5, .int .i64 a1_6, .int .i64 a1_7, .int .i64 a1_8, .int .i64 a1_9] 25 (0, 0))) ∧ (Below w.heap.size w w')) ?_ ?_
        rotate_left
        · intro hCont
          refine two_ (i := 1) (j := 3) (Ni := some 19) (Nj := some 21) #[true, true, true, false, false, false] #[true, false, true, true, false, false] rfl rfl rfl rfl (by kernel_rfl) (by decide) (by decide) (fun K hK => ?_) (fun K hK => ?_)
          · skip
            refine goes_ Try.func46 (by kernel_rfl) rfl #[.slice A0 l0.length c0] (by rfl) rfl rfl (by (try simp only [List.map_toArray, List.map_cons, List.map_nil]); first | done | rfl | (simp only [List.length_drop, List.length_take]; rfl)) ?_
            with_reducible refine (api_Artifact_46.calls (fun k_ => (((P0_ k_ ∨ P1_3_ k_) ∨ w.heap.size ≤ k_) ∧ k_ ≠ gb115)) _ _ l0 t117 _ ?side1 A5.out).mono ?_
            (case side1 => exact HO0.out)
            rintro e w23 ⟨v118, rfl, ho0, hb⟩
            refine ⟨_, rfl, ?_⟩
            have n0_ := Aside0.mk (Kd.V_elder' (by (with_reducible repeat (first | apply Kd.V_alloc | apply Kd.V_drewN | apply Kd.V_drew)); exact HO0.out) (Kd.N_base ho0) hb)
            have n1_ := Aside0.mk (Kd.V_elder' (by (with_reducible repeat (first | apply Kd.V_alloc | apply Kd.V_drewN | apply Kd.V_drew)); exact HO1_3.out) (Kd.N_base ho0) hb)
            have n2_ := Aside0.mk (Kd.N_lower (Kd.N_mono (ok' := fun k_ => ((P0_ k_ ∨ P1_3_ k_) ∨ w.heap.size ≤ k_) ∧ k_ ≠ gb115) ho0 (fun k_ hk_ => ⟨Or.elim hk_ (fun hs_ => hs_.1) (fun hn_ => (.inr (Nat.le_trans (below_size (by repeat (first | (with_reducible first | exact HB.out | apply below_alloc | apply pw_below_drewN | apply below_drew1 | refine below_set ?_ GE115.out) | exact HB.out))) hn_))), Or.elim hk_ (fun hs_ => hs_.2) (fun hn_ => (Kd.freshB (g := gb115) (o := .cells #[.int .i64 a1_0, .int .i64 a1_1, .int .i64 a1_2, .slice A1_3 l1_3.length c1_3, .int .i64 a1_4, .int .i64 a1_5, .int .i64 a1_6, .int .i64 a1_7, .int .i64 a1_8, .int .i64 a1_9] 25 (0, 0)) (by (with_reducible repeat (first | refine blk_drewN ?_ _ | refine blk_drew ?_ | refine blk_alloc ?_ _)); exact BK115.out) k_ hn_))⟩)) (below_size (by repeat (first | (with_reducible first | exact HB.out | apply below_alloc | apply pw_below_drewN | apply below_drew1 | refine below_set ?_ GE115.out) | exact HB.out))))
            have n3_ := Aside0.mk (blk_below (g := gb115) (o := .cells #[.int .i64 a1_0, .int .i64 a1_1, .int .i64 a1_2, .slice A1_3 l1_3.length c1_3, .int .i64 a1_4, .int .i64 a1_5, .int .i64 a1_6, .int .i64 a1_7, .int .i64 a1_8, .int .i64 a1_9] 25 (0, 0)) (by (with_reducible repeat (first | refine blk_drewN ?_ _ | refine blk_drew ?_ | refine blk_alloc ?_ _)); exact BK115.out) hb)
            have n4_ := Aside0.mk (below_step (by repeat (first | (with_reducible first | exact HB.out | apply below_alloc | apply pw_below_drewN | apply below_drew1 | refine below_set ?_ GE115.out) | exact HB.out)) hb)
            clear HO0
            clear HO1_3
            clear BK115
            clear HB
            have HO0 := n0_
            have HO1_3 := n1_
            have HO119 := n2_
            have BK115 := n3_
            have HB := n4_
            clear n0_ n1_ n2_ n3_ n4_
            (try clear hb)
            (try clear hb2)
            (try clear hk)
            (try clear hi)
            (try clear ho0)
            refine hK.out _ _ ⟨(blk_cell BK115.out 0).trans rfl, (blk_cell BK115.out 1).trans rfl, (blk_cell BK115.out 2).trans rfl, (blk_cell BK115.out 3).trans rfl, (blk_cell BK115.out 4).trans rfl, (blk_cell BK115.out 5).trans rfl, (blk_cell BK115.out 6).trans rfl, (blk_cell BK115.out 7).trans rfl, (blk_cell BK115.out 8).trans rfl, (blk_cell BK115.out 9).trans rfl⟩ (fun hHeld => ?_)
            clear hK K
            refine norm_ (a' := ?_) ?_ ?_
            rotate_left
            · show Act.put _ (some 19) _ = _
              simp only [Act.put, List.setIfInBounds_toArray, List.set_cons_zero, List.set_cons_succ, i64_w, i32_w]
              rfl
            refine one_ (i := 3) (N := some 21) #[true, true, true, true, false, false] rfl rfl (by kernel_rfl) (by decide) (fun K hK => ?_)
            refine Kd.N_lit_step k25 _ 25 ?hg (N' := 21) ?hd (xs := ([(⟨a1_0, a1_1, a1_2, l1_3, a1_4, a1_5, a1_6, a1_7, a1_8, a1_9⟩ : S25)] : List (S25))) (inner := [.int .i64 a1_0, .int .i64 a1_1, .int .i64 a1_2, .slice A1_3 l1_3.length c1_3, .int .i64 a1_4, .int .i64 a1_5, .int .i64 a1_6, .int .i64 a1_7, .int .i64 a1_8, .int .i64 a1_9]) (ok := (fun k_ => ((P0_ k_ ∨ P1_3_ k_) ∨ w.heap.size ≤ k_) ∧ some k_ ≠ (v118 : Value).ownBlock ∧ k_ ≠ gb115)) (okp := (fun k_ => ((P0_ k_ ∨ P1_3_ k_) ∨ w.heap.size ≤ k_) ∧ some k_ ≠ (v118 : Value).ownBlock ∧ k_ ≠ gb115)) ?hr ?hp (fun _ hk => hk) ((show ∀ k_, w23.heap.size ≤ k_ → (fun k_ => ((P0_ k_ ∨ P1_3_ k_) ∨ w.heap.size ≤ k_) ∧ some k_ ≠ (v118 : Value).ownBlock ∧ k_ ≠ gb115) k_ from fun k_ hk => ⟨(.inr (Nat.le_trans (below_size (by repeat (first | (with_reducible first | exact HB.out | apply below_alloc | apply pw_below_drewN | apply below_drew1 | refine below_set ?_ GE115.out) | exact HB.out))) hk)), Kd.fresh' (Kd.N_lt (by (with_reducible repeat (first | apply Kd.N_alloc | apply Kd.N_drewN | apply Kd.N_drew)); exact HO119.out)) k_ hk, Kd.freshB (g := gb115) (o := .cells #[.int .i64 a1_0, .int .i64 a1_1, .int .i64 a1_2, .slice A1_3 l1_3.length c1_3, .int .i64 a1_4, .int .i64 a1_5, .int .i64 a1_6, .int .i64 a1_7, .int .i64 a1_8, .int .i64 a1_9] 25 (0, 0)) (by (with_reducible repeat (first | refine blk_drewN ?_ _ | refine blk_drew ?_ | refine blk_alloc ?_ _)); exact BK115.out) k_ hk⟩) _ (Nat.le_refl _)) (Below.refl _ _) (Nat.le_refl _) (by simp) ?_; (case hd => rfl); (case hg => rfl); (case hr => first | (go_simp; done) | (go_simp; rfl)); (case hp => exact (Reps.c10 (show Kd.FK k25 _ _ (⟨a1_0, a1_1, a1_2, l1_3, a1_4, a1_5, a1_6, a1_7, a1_8, a1_9⟩ : S25) [.int .i64 a1_0, .int .i64 a1_1, .int .i64 a1_2, .slice A1_3 l1_3.length c1_3, .int .i64 a1_4, .int .i64 a1_5, .int .i64 a1_6, .int .i64 a1_7, .int .i64 a1_8, .int .i64 a1_9] from (k25_mkF _ _ (⟨a1_0, a1_1, a1_2, l1_3, a1_4, a1_5, a1_6, a1_7, a1_8, a1_9⟩ : S25) (Kd.V_reads' (Kd.V_mono (ok' := (fun k_ => ((P0_ k_ ∨ P1_3_ k_) ∨ w.heap.size ≤ k_) ∧ some k_ ≠ (v118 : Value).ownBlock ∧ k_ ≠ gb115)) (HO1_3.out) (fun k_ hk => ⟨hk.1.1, ⟨hk.2, hk.1.2⟩⟩))).2.1 (Kd.V_F (Kd.V_mono (ok' := (fun k_ => ((P0_ k_ ∨ P1_3_ k_) ∨ w.heap.size ≤ k_) ∧ some k_ ≠ (v118 : Value).ownBlock ∧ k_ ≠ gb115)) (HO1_3.out) (fun k_ hk => ⟨hk.1.1, ⟨hk.2, hk.1.2⟩⟩))))) (Reps.none _ _)))
            intro v121 w24 ho25 hb hg_ hnew_
            clear hg_ hnew_
            (first | rw [← Ny120.out] at ho25 | (simp only [Int.reduceToNat] at ho25; rw [← Ny120.out] at ho25))
            have n0_ := Aside0.mk (Kd.V_elder' (by (with_reducible repeat (first | apply Kd.V_alloc | apply Kd.V_drewN | apply Kd.V_drew)); exact HO0.out) (Kd.N_base ho25) hb)
            have n1_ := Aside0.mk (Kd.V_elder' (by (with_reducible repeat (first | apply Kd.V_alloc | apply Kd.V_drewN | apply Kd.V_drew)); exact HO1_3.out) (Kd.N_base ho25) hb)
            have n2_ := Aside0.mk (Kd.N_elder' (by (with_reducible repeat (first | apply Kd.N_alloc | apply Kd.N_drewN | apply Kd.N_drew)); exact HO119.out) (Kd.N_base ho25) hb)
            have n3_ := Aside0.mk (Kd.N_lower ho25 (below_size (by repeat (first | (with_reducible first | exact HB.out | apply below_alloc | apply pw_below_drewN | apply below_drew1 | refine below_set ?_ GE115.out) | exact HB.out))))
            have n4_ := Aside0.mk (blk_below (g := gb115) (o := .cells #[.int .i64 a1_0, .int .i64 a1_1, .int .i64 a1_2, .slice A1_3 l1_3.length c1_3, .int .i64 a1_4, .int .i64 a1_5, .int .i64 a1_6, .int .i64 a1_7, .int .i64 a1_8, .int .i64 a1_9] 25 (0, 0)) (by (with_reducible repeat (first | refine blk_drewN ?_ _ | refine blk_drew ?_ | refine blk_alloc ?_ _)); exact BK115.out) hb)
            have n5_ := Aside0.mk (below_step (by repeat (first | (with_reducible first | exact HB.out | apply below_alloc | apply pw_below_drewN | apply below_drew1 | refine below_set ?_ GE115.out) | exact HB.out)) hb)
            clear HO0
            clear HO1_3
            clear HO119
            clear BK115
            clear HB
            have HO0 := n0_
            have HO1_3 := n1_
            have HO119 := n2_
            have HO122 := n3_
            have BK115 := n4_
            have HB := n5_
            clear n0_ n1_ n2_ n3_ n4_ n5_
            clear hb ho25
            refine hK.out _ _ ⟨(blk_cell BK115.out 0).trans rfl, (blk_cell BK115.out 1).trans rfl, (blk_cell BK115.out 2).trans rfl, (blk_cell BK115.out 3).trans rfl, (blk_cell BK115.out 4).trans rfl, (blk_cell BK115.out 5).trans rfl, (blk_cell BK115.out 6).trans rfl, (blk_cell BK115.out 7).trans rfl, (blk_cell BK115.out 8).trans rfl, (blk_cell BK115.out 9).trans rfl⟩ (fun hHeld => ?_)
            clear hK K
            refine norm_ (a' := ?_) ?_ ?_
            rotate_left
            · show Act.put _ (some 21) _ = _
              simp only [Act.put, List.setIfInBounds_toArray, List.set_cons_zero, List.set_cons_succ, i64_w, i32_w]
              rfl
            exact norm_ (by simp only [putAll, Act.put, List.setIfInBounds_toArray, List.set_cons_zero, List.set_cons_succ]) (hCont (v118, v121) _ ⟨hHeld, (by (with_reducible repeat (first | apply Kd.V_alloc | apply Kd.V_drewN | apply Kd.V_drew)); exact Kd.V_mono HO0.out (fun _ hk => ⟨hk.1.1.1, ⟨hk.1.2, ⟨hk.2, hk.1.1.2⟩⟩⟩)), (by (with_reducible repeat (first | apply Kd.N_alloc | apply Kd.N_drewN | apply Kd.N_drew)); exact Kd.N_mono HO119.out (fun _ hk => ⟨hk.1.1, ⟨hk.2, hk.1.2⟩⟩)), (by (with_reducible repeat (first | apply Kd.N_alloc | apply Kd.N_drewN | apply Kd.N_drew)); exact HO122.out), (by (with_reducible repeat (first | apply Kd.V_alloc | apply Kd.V_drewN | apply Kd.V_drew)); exact Kd.V_mono HO1_3.out (fun _ hk => ⟨hk.1.1.1, ⟨hk.1.2, ⟨hk.2, hk.1.1.2⟩⟩⟩)), (by (with_reducible repeat (first | refine blk_drewN ?_ _ | refine blk_drew ?_ | refine blk_alloc ?_ _)); exact BK115.out), (by repeat (first | (with_reducible first | exact HB.out | apply below_alloc | apply pw_below_drewN | apply below_drew1 | refine below_set ?_ GE115.out) | exact HB.out))⟩)
          · skip
            refine Kd.N_lit_step k25 _ 25 ?hg (N' := 21) ?hd (xs := ([(⟨a1_0, a1_1, a1_2, l1_3, a1_4, a1_5, a1_6, a1_7, a1_8, a1_9⟩ : S25)] : List (S25))) (inner := [.int .i64 a1_0, .int .i64 a1_1, .int .i64 a1_2, .slice A1_3 l1_3.length c1_3, .int .i64 a1_4, .int .i64 a1_5, .int .i64 a1_6, .int .i64 a1_7, .int .i64 a1_8, .int .i64 a1_9]) (ok := (fun k_ => ((P0_ k_ ∨ P1_3_ k_) ∨ w.heap.size ≤ k_) ∧ k_ ≠ gb115)) (okp := (fun k_ => ((P0_ k_ ∨ P1_3_ k_) ∨ w.heap.size ≤ k_) ∧ k_ ≠ gb115)) ?hr ?hp (fun _ hk => hk) ((show ∀ k_, w22.heap.size ≤ k_ → (fun k_ => ((P0_ k_ ∨ P1_3_ k_) ∨ w.heap.size ≤ k_) ∧ k_ ≠ gb115) k_ from fun k_ hk => ⟨(.inr (Nat.le_trans (below_size (by repeat (first | (with_reducible first | exact HB.out | apply below_alloc | apply pw_below_drewN | apply below_drew1 | refine below_set ?_ GE115.out) | exact HB.out))) hk)), Kd.freshB (g := gb115) (o := .cells #[.int .i64 a1_0, .int .i64 a1_1, .int .i64 a1_2, .slice A1_3 l1_3.length c1_3, .int .i64 a1_4, .int .i64 a1_5, .int .i64 a1_6, .int .i64 a1_7, .int .i64 a1_8, .int .i64 a1_9] 25 (0, 0)) (by (with_reducible repeat (first | refine blk_drewN ?_ _ | refine blk_drew ?_ | refine blk_alloc ?_ _)); exact BK115.out) k_ hk⟩) _ (Nat.le_refl _)) (Below.refl _ _) (Nat.le_refl _) (by simp) ?_; (case hd => rfl); (case hg => rfl); (case hr => first | (go_simp; done) | (go_simp; rfl)); (case hp => exact (Reps.c10 (show Kd.FK k25 _ _ (⟨a1_0, a1_1, a1_2, l1_3, a1_4, a1_5, a1_6, a1_7, a1_8, a1_9⟩ : S25) [.int .i64 a1_0, .int .i64 a1_1, .int .i64 a1_2, .slice A1_3 l1_3.length c1_3, .int .i64 a1_4, .int .i64 a1_5, .int .i64 a1_6, .int .i64 a1_7, .int .i64 a1_8, .int .i64 a1_9] from (k25_mkF _ _ (⟨a1_0, a1_1, a1_2, l1_3, a1_4, a1_5, a1_6, a1_7, a1_8, a1_9⟩ : S25) (Kd.V_reads' (Kd.V_mono (ok' := (fun k_ => ((P0_ k_ ∨ P1_3_ k_) ∨ w.heap.size ≤ k_) ∧ k_ ≠ gb115)) (HO1_3.out) (fun k_ hk => ⟨hk.1, hk.2⟩))).2.1 (Kd.V_F (Kd.V_mono (ok' := (fun k_ => ((P0_ k_ ∨ P1_3_ k_) ∨ w.heap.size ≤ k_) ∧ k_ ≠ gb115)) (HO1_3.out) (fun k_ hk => ⟨hk.1, hk.2⟩))))) (Reps.none _ _)))
            intro v121 w23 ho24 hb hg_ hnew_
            clear hg_ hnew_
            (first | rw [← Ny120.out] at ho24 | (simp only [Int.reduceToNat] at ho24; rw [← Ny120.out] at ho24))
            have n0_ := Aside0.mk (Kd.V_elder' (by (with_reducible repeat (first | apply Kd.V_alloc | apply Kd.V_drewN | apply Kd.V_drew)); exact HO0.out) (Kd.N_base ho24) hb)
            have n1_ := Aside0.mk (Kd.V_elder' (by (with_reducible repeat (first | apply Kd.V_alloc | apply Kd.V_drewN | apply Kd.V_drew)); exact HO1_3.out) (Kd.N_base ho24) hb)
            have n2_ := Aside0.mk (Kd.N_lower ho24 (below_size (by repeat (first | (with_reducible first | exact HB.out | apply below_alloc | apply pw_below_drewN | apply below_drew1 | refine below_set ?_ GE115.out) | exact HB.out))))
            have n3_ := Aside0.mk (blk_below (g := gb115) (o := .cells #[.int .i64 a1_0, .int .i64 a1_1, .int .i64 a1_2, .slice A1_3 l1_3.length c1_3, .int .i64 a1_4, .int .i64 a1_5, .int .i64 a1_6, .int .i64 a1_7, .int .i64 a1_8, .int .i64 a1_9] 25 (0, 0)) (by (with_reducible repeat (first | refine blk_drewN ?_ _ | refine blk_drew ?_ | refine blk_alloc ?_ _)); exact BK115.out) hb)
            have n4_ := Aside0.mk (below_step (by repeat (first | (with_reducible first | exact HB.out | apply below_alloc | apply pw_below_drewN | apply below_drew1 | refine below_set ?_ GE115.out) | exact HB.out)) hb)
            clear HO0
            clear HO1_3
            clear BK115
            clear HB
            have HO0 := n0_
            have HO1_3 := n1_
            have HO122 := n2_
            have BK115 := n3_
            have HB := n4_
            clear n0_ n1_ n2_ n3_ n4_
            clear hb ho24
            refine hK.out _ _ ⟨(blk_cell BK115.out 0).trans rfl, (blk_cell BK115.out 1).trans rfl, (blk_cell BK115.out 2).trans rfl, (blk_cell BK115.out 3).trans rfl, (blk_cell BK115.out 4).trans rfl, (blk_cell BK115.out 5).trans rfl, (blk_cell BK115.out 6).trans rfl, (blk_cell BK115.out 7).trans rfl, (blk_cell BK115.out 8).trans rfl, (blk_cell BK115.out 9).trans rfl⟩ (fun hHeld => ?_)
            clear hK K
            refine norm_ (a' := ?_) ?_ ?_
            rotate_left
            · show Act.put _ (some 21) _ = _
              simp only [Act.put, List.setIfInBounds_toArray, List.set_cons_zero, List.set_cons_succ, i64_w, i32_w]
              rfl
            refine one_ (i := 1) (N := some 19) #[true, true, true, true, false, false] rfl rfl (by kernel_rfl) (by decide) (fun K hK => ?_)
            refine goes_ Try.func46 (by kernel_rfl) rfl #[.slice A0 l0.length c0] (by rfl) rfl rfl (by (try simp only [List.map_toArray, List.map_cons, List.map_nil]); first | done | rfl | (simp only [List.length_drop, List.length_take]; rfl)) ?_
            with_reducible refine (api_Artifact_46.calls (fun k_ => ((((P0_ k_ ∨ P1_3_ k_) ∨ w.heap.size ≤ k_) ∧ k_ ≠ gb115) ∧ some k_ ≠ (v121 : Value).ownBlock)) _ _ l0 t117 _ ?side1 A5.out).mono ?_
            (case side1 => exact HO0.out)
            rintro e w25 ⟨v118, rfl, ho0, hb⟩
            refine ⟨_, rfl, ?_⟩
            have n0_ := Aside0.mk (Kd.V_elder' (by (with_reducible repeat (first | apply Kd.V_alloc | apply Kd.V_drewN | apply Kd.V_drew)); exact HO0.out) (Kd.N_base ho0) hb)
            have n1_ := Aside0.mk (Kd.V_elder' (by (with_reducible repeat (first | apply Kd.V_alloc | apply Kd.V_drewN | apply Kd.V_drew)); exact HO1_3.out) (Kd.N_base ho0) hb)
            have n2_ := Aside0.mk (Kd.N_elder' (by (with_reducible repeat (first | apply Kd.N_alloc | apply Kd.N_drewN | apply Kd.N_drew)); exact HO122.out) (Kd.N_base ho0) hb)
            have n3_ := Aside0.mk (Kd.N_lower (Kd.N_mono (ok' := fun k_ => ((P0_ k_ ∨ P1_3_ k_) ∨ w.heap.size ≤ k_) ∧ some k_ ≠ (v121 : Value).ownBlock ∧ k_ ≠ gb115) ho0 (fun k_ hk_ => ⟨Or.elim hk_ (fun hs_ => hs_.1.1) (fun hn_ => (.inr (Nat.le_trans (below_size (by repeat (first | (with_reducible first | exact HB.out | apply below_alloc | apply pw_below_drewN | apply below_drew1 | refine below_set ?_ GE115.out) | exact HB.out))) hn_))), Or.elim hk_ (fun hs_ => hs_.2) (fun hn_ => (Kd.fresh' (Kd.N_lt (by (with_reducible repeat (first | apply Kd.N_alloc | apply Kd.N_drewN | apply Kd.N_drew)); exact HO122.out)) k_ hn_)), Or.elim hk_ (fun hs_ => hs_.1.2) (fun hn_ => (Kd.freshB (g := gb115) (o := .cells #[.int .i64 a1_0, .int .i64 a1_1, .int .i64 a1_2, .slice A1_3 l1_3.length c1_3, .int .i64 a1_4, .int .i64 a1_5, .int .i64 a1_6, .int .i64 a1_7, .int .i64 a1_8, .int .i64 a1_9] 25 (0, 0)) (by (with_reducible repeat (first | refine blk_drewN ?_ _ | refine blk_drew ?_ | refine blk_alloc ?_ _)); exact BK115.out) k_ hn_))⟩)) (below_size (by repeat (first | (with_reducible first | exact HB.out | apply below_alloc | apply pw_below_drewN | apply below_drew1 | refine below_set ?_ GE115.out) | exact HB.out))))
            have n4_ := Aside0.mk (blk_below (g := gb115) (o := .cells #[.int .i64 a1_0, .int .i64 a1_1, .int .i64 a1_2, .slice A1_3 l1_3.length c1_3, .int .i64 a1_4, .int .i64 a1_5, .int .i64 a1_6, .int .i64 a1_7, .int .i64 a1_8, .int .i64 a1_9] 25 (0, 0)) (by (with_reducible repeat (first | refine blk_drewN ?_ _ | refine blk_drew ?_ | refine blk_alloc ?_ _)); exact BK115.out) hb)
            have n5_ := Aside0.mk (below_step (by repeat (first | (with_reducible first | exact HB.out | apply below_alloc | apply pw_below_drewN | apply below_drew1 | refine below_set ?_ GE115.out) | exact HB.out)) hb)
            clear HO0
            clear HO1_3
            clear HO122
            clear BK115
            clear HB
            have HO0 := n0_
            have HO1_3 := n1_
            have HO122 := n2_
            have HO119 := n3_
            have BK115 := n4_
            have HB := n5_
            clear n0_ n1_ n2_ n3_ n4_ n5_
            (try clear hb)
            (try clear hb2)
            (try clear hk)
            (try clear hi)
            (try clear ho0)
            refine hK.out _ _ ⟨(blk_cell BK115.out 0).trans rfl, (blk_cell BK115.out 1).trans rfl, (blk_cell BK115.out 2).trans rfl, (blk_cell BK115.out 3).trans rfl, (blk_cell BK115.out 4).trans rfl, (blk_cell BK115.out 5).trans rfl, (blk_cell BK115.out 6).trans rfl, (blk_cell BK115.out 7).trans rfl, (blk_cell BK115.out 8).trans rfl, (blk_cell BK115.out 9).trans rfl⟩ (fun hHeld => ?_)
            clear hK K
            refine norm_ (a' := ?_) ?_ ?_
            rotate_left
            · show Act.put _ (some 19) _ = _
              simp only [Act.put, List.setIfInBounds_toArray, List.set_cons_zero, List.set_cons_succ, i64_w, i32_w]
              rfl
            exact norm_ (by simp only [putAll, Act.put, List.setIfInBounds_toArray, List.set_cons_zero, List.set_cons_succ]) (hCont (v118, v121) _ ⟨hHeld, (by (with_reducible repeat (first | apply Kd.V_alloc | apply Kd.V_drewN | apply Kd.V_drew)); exact Kd.V_mono HO0.out (fun _ hk => ⟨hk.1.1.1, ⟨hk.2, ⟨hk.1.2, hk.1.1.2⟩⟩⟩)), (by (with_reducible repeat (first | apply Kd.N_alloc | apply Kd.N_drewN | apply Kd.N_drew)); exact HO119.out), (by (with_reducible repeat (first | apply Kd.N_alloc | apply Kd.N_drewN | apply Kd.N_drew)); exact Kd.N_mono HO122.out (fun _ hk => ⟨hk.1.1, ⟨hk.2, hk.1.2⟩⟩)), (by (with_reducible repeat (first | apply Kd.V_alloc | apply Kd.V_drewN | apply Kd.V_drew)); exact Kd.V_mono HO1_3.out (fun _ hk => ⟨hk.1.1.1, ⟨hk.2, ⟨hk.1.2, hk.1.1.2⟩⟩⟩)), (by (with_reducible repeat (first | refine blk_drewN ?_ _ | refine blk_drew ?_ | refine blk_alloc ?_ _)); exact BK115.out), (by repeat (first | (with_reducible first | exact HB.out | apply below_alloc | apply pw_below_drewN | apply below_drew1 | refine below_set ?_ GE115.out) | exact HB.out))⟩)
        rintro ⟨v118, v121⟩ w26 ⟨hS_, h0_, h1_, h2_, h3_, h4_, h5_⟩
        have n0_ : Aside0 (Kd.V k25 25 w26 w.heap.size (fun k_ => ((P0_ k_ ∨ P1_3_ k_) ∨ w.heap.size ≤ k_) ∧ some k_ ≠ (v118 : Value).ownBlock ∧ some k_ ≠ (v121 : Value).ownBlock ∧ k_ ≠ gb115) (.slice A0 l0.length c0) l0) := ⟨h0_⟩
        have n1_ : Aside0 (Kd.N k25 25 w26 w.heap.size (fun k_ => ((P0_ k_ ∨ P1_3_ k_) ∨ w.heap.size ≤ k_) ∧ some k_ ≠ (v121 : Value).ownBlock ∧ k_ ≠ gb115) v118 t117) := ⟨h1_⟩
        have n2_ : Aside0 (Kd.N k25 25 w26 w.heap.size (fun k_ => ((P0_ k_ ∨ P1_3_ k_) ∨ w.heap.size ≤ k_) ∧ some k_ ≠ (v118 : Value).ownBlock ∧ k_ ≠ gb115) v121 y120) := ⟨h2_⟩
        have n3_ : Aside0 (Kd.V (Kd.int .i64) 3 w26 w.heap.size (fun k_ => ((P0_ k_ ∨ P1_3_ k_) ∨ w.heap.size ≤ k_) ∧ some k_ ≠ (v118 : Value).ownBlock ∧ some k_ ≠ (v121 : Value).ownBlock ∧ k_ ≠ gb115) (.slice A1_3 l1_3.length c1_3) l1_3) := ⟨h3_⟩
        have n4_ : Aside0 (w26.heap[gb115]? = some (.cells #[.int .i64 a1_0, .int .i64 a1_1, .int .i64 a1_2, .slice A1_3 l1_3.length c1_3, .int .i64 a1_4, .int .i64 a1_5, .int .i64 a1_6, .int .i64 a1_7, .int .i64 a1_8, .int .i64 a1_9] 25 (0, 0))) := ⟨h4_⟩
        have n5_ : Aside0 (Below w.heap.size w w26) := ⟨h5_⟩
        clear HO0
        clear HO1_3
        clear BK115
        clear HB
        clear h0_ h1_ h2_ h3_ h4_ h5_
        have HO0 := n0_
        have HO119 := n1_
        have HO122 := n2_
        have HO1_3 := n3_
        have BK115 := n4_
        have HB := n5_
        clear n0_ n1_ n2_ n3_ n4_ n5_
        have hHeld : w26.cell? ⟨gb115, 0, none⟩ = some (.int .i64 a1_0) ∧ w26.cell? ⟨gb115, 1, none⟩ = some (.int .i64 a1_1) ∧ w26.cell? ⟨gb115, 2, none⟩ = some (.int .i64 a1_2) ∧ w26.cell? ⟨gb115, 3, none⟩ = some (.slice A1_3 l1_3.length c1_3) ∧ w26.cell? ⟨gb115, 4, none⟩ = some (.int .i64 a1_4) ∧ w26.cell? ⟨gb115, 5, none⟩ = some (.int .i64 a1_5) ∧ w26.cell? ⟨gb115, 6, none⟩ = some (.int .i64 a1_6) ∧ w26.cell? ⟨gb115, 7, none⟩ = some (.int .i64 a1_7) ∧ w26.cell? ⟨gb115, 8, none⟩ = some (.int .i64 a1_8) ∧ w26.cell? ⟨gb115, 9, none⟩ = some (.int .i64 a1_9) := hS_
        obtain ⟨Ao28, co28, eo28⟩ := Kd.N_slice HO122.out
        (first | subst eo28 | (injection eo28 with f1_ f2_ f3_; have f4_ := f1_.symm; have f5_ := f3_.symm; clear f1_ f2_ f3_; subst f4_; subst f5_))
        refine norm_ (a' := ?_) ?_ ?_
        rotate_left
        · simp only [putAll, Act.put, List.setIfInBounds_toArray, List.set_cons_zero, List.set_cons_succ]
          rfl
        refine one_ (i := 4) (N := some 22) #[true, true, true, true, true, false] rfl rfl (by kernel_rfl) (by decide) (fun K hK => ?_)
        refine Kd.N_append_rows_step k25 (w0 := w) w.heap.size (by rfl) (.tmp 19) (.tmp 21) 22 25 (.agg #[(.int .i64 0), (.int .i64 0), (.int .i64 0), (.slice none 0 0), (.int .i64 0), (.int .i64 0), (.int .i64 0), (.int .i64 0), (.int .i64 0), (.int .i64 0)]) 96 rfl Try.underlying22 info25 rfl (by decide) (by omega) v118 t117 y120 _ _ _ (fun k_ => ((P0_ k_ ∨ P1_3_ k_) ∨ w.heap.size ≤ k_) ∧ k_ ≠ gb115) (fun k_ => ((fun k_ => ((P0_ k_ ∨ P1_3_ k_) ∨ w.heap.size ≤ k_) ∧ k_ ≠ gb115)) k_ ∧ some k_ ≠ (v118 : Value).ownBlock) rfl rfl ?aO ?aR (fun _ hk => hk) ?aF ?aB ?aS ?aL ?_
        (case aR => exact (by skip; exact Kd.N_F (Kd.N_mono (ok' := (fun k_ => ((fun k_ => ((P0_ k_ ∨ P1_3_ k_) ∨ w.heap.size ≤ k_) ∧ k_ ≠ gb115)) k_ ∧ some k_ ≠ (v118 : Value).ownBlock)) (HO122.out) (fun k_ hk => ⟨⟨hk.1, hk.2.2⟩, hk.2.1⟩))))
        (case aB => exact (by repeat (first | (with_reducible first | exact HB.out | apply below_alloc | apply pw_below_drewN | apply below_drew1 | refine below_set ?_ GE115.out) | exact HB.out)))
        (case aF => exact (fun k_ hk => ⟨(.inr (Nat.le_trans (below_size (by repeat (first | (with_reducible first | exact HB.out | apply below_alloc | apply pw_below_drewN | apply below_drew1 | refine below_set ?_ GE115.out) | exact HB.out))) hk)), Kd.freshB (g := gb115) (o := .cells #[.int .i64 a1_0, .int .i64 a1_1, .int .i64 a1_2, .slice A1_3 l1_3.length c1_3, .int .i64 a1_4, .int .i64 a1_5, .int .i64 a1_6, .int .i64 a1_7, .int .i64 a1_8, .int .i64 a1_9] 25 (0, 0)) (by (with_reducible repeat (first | refine blk_drewN ?_ _ | refine blk_drew ?_ | refine blk_alloc ?_ _)); exact BK115.out) k_ hk⟩))
        (case aO => exact (by (with_reducible repeat (first | apply Kd.N_alloc | apply Kd.N_drewN | apply Kd.N_drew)); exact Kd.N_mono HO119.out (fun _ hk => ⟨hk.1, hk.2.2⟩)))
        (case aS => exact (below_size (by repeat (first | (with_reducible first | exact HB.out | apply below_alloc | apply pw_below_drewN | apply below_drew1 | refine below_set ?_ GE115.out) | exact HB.out))))
        (case aL => have := LMc6.out; omega)
        intro v124 w27 ho hb hg hat
        rw [← Ny123.out] at ho
        have n0_ := Aside0.mk (Kd.V_afterv (ok := (fun k_ => ((P0_ k_ ∨ P1_3_ k_) ∨ w.heap.size ≤ k_) ∧ some k_ ≠ (.slice Ao28 y120.length co28 : Value).ownBlock ∧ k_ ≠ gb115)) (by (with_reducible repeat (first | apply Kd.V_alloc | apply Kd.V_drewN | apply Kd.V_drew)); exact Kd.V_mono HO0.out (fun _ hk => ⟨⟨hk.1, ⟨hk.2.2.1, hk.2.2.2⟩⟩, hk.2.1⟩)) hg hat)
        have n1_ := Aside0.mk (Kd.V_afterv (ok := (fun k_ => ((P0_ k_ ∨ P1_3_ k_) ∨ w.heap.size ≤ k_) ∧ some k_ ≠ (.slice Ao28 y120.length co28 : Value).ownBlock ∧ k_ ≠ gb115)) (by (with_reducible repeat (first | apply Kd.V_alloc | apply Kd.V_drewN | apply Kd.V_drew)); exact Kd.V_mono HO1_3.out (fun _ hk => ⟨⟨hk.1, ⟨hk.2.2.1, hk.2.2.2⟩⟩, hk.2.1⟩)) hg hat)
        have n2_ := Aside0.mk (blk_grown (g := gb115) (o := .cells #[.int .i64 a1_0, .int .i64 a1_1, .int .i64 a1_2, .slice A1_3 l1_3.length c1_3, .int .i64 a1_4, .int .i64 a1_5, .int .i64 a1_6, .int .i64 a1_7, .int .i64 a1_8, .int .i64 a1_9] 25 (0, 0)) (by (with_reducible repeat (first | refine blk_drewN ?_ _ | refine blk_drew ?_ | refine blk_alloc ?_ _)); exact BK115.out) hg (Kd.N_away HO119.out (fun _ hk => hk.2.2)))
        have n3_ := Aside0.mk (Kd.N_afterv (ok := (fun k_ => ((P0_ k_ ∨ P1_3_ k_) ∨ w.heap.size ≤ k_) ∧ k_ ≠ gb115)) (by (with_reducible repeat (first | apply Kd.N_alloc | apply Kd.N_drewN | apply Kd.N_drew)); exact Kd.N_mono HO122.out (fun _ hk => ⟨⟨hk.1, hk.2.2⟩, hk.2.1⟩)) hg hat)
        have n4_ := Aside0.mk (hb)
        have n5_ := Aside0.mk (ho)
        clear HO0
        clear HO1_3
        clear BK115
        clear HO122
        clear HB
        clear HO119
        have HO0 := n0_
        have HO1_3 := n1_
        have BK115 := n2_
        have HO122 := n3_
        have HB := n4_
        have HO125 := n5_
        clear n0_ n1_ n2_ n3_ n4_ n5_
        clear ho hb hg hat
        refine hK.out _ _ ⟨(blk_cell BK115.out 0).trans rfl, (blk_cell BK115.out 1).trans rfl, (blk_cell BK115.out 2).trans rfl, (blk_cell BK115.out 3).trans rfl, (blk_cell BK115.out 4).trans rfl, (blk_cell BK115.out 5).trans rfl, (blk_cell BK115.out 6).trans rfl, (blk_cell BK115.out 7).trans rfl, (blk_cell BK115.out 8).trans rfl, (blk_cell BK115.out 9).trans rfl⟩ (fun hHeld => ?_)
        clear hK K
        refine norm_ (a' := ?_) ?_ ?_
        rotate_left
        · show Act.put _ (some 22) _ = _
          simp only [Act.put, List.setIfInBounds_toArray, List.set_cons_zero, List.set_cons_succ, i64_w, i32_w]
          rfl
        refine pure_ (i := 5) (N := some 7) (v := ?_) (a' := ?_) #[true, true, true, true, true, true] rfl rfl (by kernel_rfl) (fun _ _ _ h => h) (Or.inl ⟨by rfl, ?_⟩) ?_ ?_
        rotate_left
        · intro w'
          go_simp
          with_reducible rfl
        rotate_left
        · simp only [Act.put, List.setIfInBounds_toArray, List.set_cons_zero, List.set_cons_succ, i64_w, i32_w]
          rfl
        refine done_ (by kernel_rfl) ?_
        obtain ⟨Ao29, co29, eo29⟩ := Kd.N_slice HO125.out
        subst eo29
        try go_wp2_with (first | ((with_reducible refine gate_callee (f := 21) rfl ?_); refine goesL_ (some 24) rfl rfl Try.func21 (by kernel_rfl) rfl #[.slice Ao29 y123.length co29] rfl (by (try simp only [List.map_toArray, List.map_cons, List.map_nil]); first | done | rfl | (simp only [List.length_drop, List.length_take]; rfl)) ?_; (with_reducible refine (trace_Check.calls _ _ y123 t126 _ ?side1 ?side2 A7.out).mono ?_); (case side1 => repeat (first | exact (Kd.N_reads' HO125.out).2.2 | (with_reducible refine Kd.C_alloc ?_ _) | (with_reducible refine Kd.C_drewN ?_ _) | (with_reducible refine Kd.C_drew ?_))); (case side2 => exact (Kd.N_reads' HO125.out).2.1); rintro e w30 ⟨rfl, hb⟩; refine ⟨_, rfl, ?_⟩; have n0_ := Aside0.mk (Kd.V_below (by (with_reducible repeat (first | apply Kd.V_alloc | apply Kd.V_drewN | apply Kd.V_drew)); exact HO0.out) hb); have n1_ := Aside0.mk (Kd.V_below (by (with_reducible repeat (first | apply Kd.V_alloc | apply Kd.V_drewN | apply Kd.V_drew)); exact HO1_3.out) hb); have n2_ := Aside0.mk (Kd.N_below (by (with_reducible repeat (first | apply Kd.N_alloc | apply Kd.N_drewN | apply Kd.N_drew)); exact HO122.out) hb); have n3_ := Aside0.mk (Kd.N_below (by (with_reducible repeat (first | apply Kd.N_alloc | apply Kd.N_drewN | apply Kd.N_drew)); exact HO125.out) hb); have n4_ := Aside0.mk (blk_below (g := gb115) (o := .cells #[.int .i64 a1_0, .int .i64 a1_1, .int .i64 a1_2, .slice A1_3 l1_3.length c1_3, .int .i64 a1_4, .int .i64 a1_5, .int .i64 a1_6, .int .i64 a1_7, .int .i64 a1_8, .int .i64 a1_9] 25 (0, 0)) (by (with_reducible repeat (first | refine blk_drewN ?_ _ | refine blk_drew ?_ | refine blk_alloc ?_ _)); exact BK115.out) hb); have n5_ := Aside0.mk (below_step (by repeat (first | (with_reducible first | exact HB.out | apply below_alloc | apply pw_below_drewN | apply below_drew1 | refine below_set ?_ GE115.out) | exact HB.out)) hb); clear HO0; clear HO1_3; clear HO122; clear HO125; clear BK115; clear HB; have HO0 := n0_; have HO1_3 := n1_; have HO122 := n2_; have HO125 := n3_; have BK115 := n4_; have HB := n5_; clear n0_ n1_ n2_ n3_ n4_ n5_; (try clear hb); (try clear hb2); (try clear hk); (try clear hi)))
        go_ret2
        exact ⟨_, by first | rfl | (simp [errW_none, errW_some] <;> rfl) | (simp [*, errW_none, errW_some] <;> rfl), by first | exact Kd.S_nil _ _ _ _ _ | exact Kd.N_nil _ _ _ _ _ | exact Kd.V_nil _ _ _ _ _ | exact Kd.Q_nil _ _ _ _ _ | exact Kd.R_nil _ _ _ _ _, by repeat (first | (with_reducible first | exact HB.out | apply below_alloc | apply pw_below_drewN | apply below_drew1 | refine below_set ?_ GE115.out) | exact HB.out)⟩
    · rw [if_neg c6] at H
      exact absurd H (by simp)
  · rw [if_neg c4] at H
    have c4b0 : (t116 == 0) = false := beq_eq_false_iff_ne.mpr c4
    have c4b1 : (t116 != 0) = true := bne_iff_ne.mpr c4
    simp only [Option.some.injEq, Prod.mk.injEq] at H
    obtain ⟨rfl, rfl⟩ := H
    go_enter Try.func11, Try.ntmps11
    go_wp2_with (first | ((with_reducible refine gate_dst (N := 3) rfl ?_); refine box_event ?hg (N := 3) ?hd (cs := #[.int .i64 a1_0, .int .i64 a1_1, .int .i64 a1_2, .slice A1_3 l1_3.length c1_3, .int .i64 a1_4, .int .i64 a1_5, .int .i64 a1_6, .int .i64 a1_7, .int .i64 a1_8, .int .i64 a1_9]) (t := 25) ?hr ?_; (case hd => rfl); (case hg => rfl); (case hr => first | (go_simp; done) | (go_simp; rfl)); intro gb115 hg w31 hbox hb; have n0_ := Aside0.mk (Kd.V_below (Kd.V_elderB (by (with_reducible repeat (first | apply Kd.V_alloc | apply Kd.V_drewN | apply Kd.V_drew)); exact HO0.out) gb115 (Nat.le_of_eq hg.symm)) hb); have n1_ := Aside0.mk (Kd.V_below (Kd.V_elderB (by (with_reducible repeat (first | apply Kd.V_alloc | apply Kd.V_drewN | apply Kd.V_drew)); exact HO1_3.out) gb115 (Nat.le_of_eq hg.symm)) hb); have n2_ := Aside0.mk (below_step (by repeat (first | (with_reducible first | exact HB.out | apply below_alloc | apply pw_below_drewN | apply below_drew1) | exact HB.out)) hb); have n3_ := Aside0.mk (hbox); have n4_ := Aside0.mk ((by rw [hg]; exact (below_size (by repeat (first | (with_reducible first | exact HB.out | apply below_alloc | apply pw_below_drewN | apply below_drew1) | exact HB.out))) : w.heap.size ≤ gb115)); have n5_ := Aside0.mk ((by rw [hg]; exact (below_size (by repeat (first | (with_reducible first | exact HB.out | apply below_alloc | apply pw_below_drewN | apply below_drew1) | exact HB.out))) : w.heap.size ≤ gb115)); clear HO0; clear HO1_3; clear HB; have HO0 := n0_; have HO1_3 := n1_; have HB := n2_; have BK115 := n3_; have GW115 := n4_; have GE115 := n5_; clear n0_ n1_ n2_ n3_ n4_ n5_; clear hb hbox hg) | ((with_reducible refine gate_callee (f := 21) rfl ?_); refine goesL_ (some 10) rfl rfl Try.func21 (by kernel_rfl) rfl #[.slice A0 l0.length c0] rfl (by (try simp only [List.map_toArray, List.map_cons, List.map_nil]); first | done | rfl | (simp only [List.length_drop, List.length_take]; rfl)) ?_; (with_reducible refine (trace_Check.calls _ _ l0 t116 _ ?side1 ?side2 A3.out).mono ?_); (case side1 => repeat (first | exact (Kd.V_reads' HO0.out).2.2 | (with_reducible refine Kd.C_alloc ?_ _) | (with_reducible refine Kd.C_drewN ?_ _) | (with_reducible refine Kd.C_drew ?_))); (case side2 => exact (Kd.V_reads' HO0.out).2.1); rintro e w32 ⟨rfl, hb⟩; refine ⟨_, rfl, ?_⟩; have n0_ := Aside0.mk (Kd.V_below (by (with_reducible repeat (first | apply Kd.V_alloc | apply Kd.V_drewN | apply Kd.V_drew)); exact HO0.out) hb); have n1_ := Aside0.mk (Kd.V_below (by (with_reducible repeat (first | apply Kd.V_alloc | apply Kd.V_drewN | apply Kd.V_drew)); exact HO1_3.out) hb); have n2_ := Aside0.mk (blk_below (g := gb115) (o := .cells #[.int .i64 a1_0, .int .i64 a1_1, .int .i64 a1_2, .slice A1_3 l1_3.length c1_3, .int .i64 a1_4, .int .i64 a1_5, .int .i64 a1_6, .int .i64 a1_7, .int .i64 a1_8, .int .i64 a1_9] 25 (0, 0)) (by (with_reducible repeat (first | refine blk_drewN ?_ _ | refine blk_drew ?_ | refine blk_alloc ?_ _)); exact BK115.out) hb); have n3_ := Aside0.mk (below_step (by repeat (first | (with_reducible first | exact HB.out | apply below_alloc | apply pw_below_drewN | apply below_drew1 | refine below_set ?_ GE115.out) | exact HB.out)) hb); clear HO0; clear HO1_3; clear BK115; clear HB; have HO0 := n0_; have HO1_3 := n1_; have BK115 := n2_; have HB := n3_; clear n0_ n1_ n2_ n3_; (try clear hb); (try clear hb2); (try clear hk); (try clear hi)))
    go_ret2
    exact ⟨_, by first | rfl | (simp [errW_none, errW_some] <;> rfl) | (simp [*, errW_none, errW_some] <;> rfl), by first | exact Kd.S_nil _ _ _ _ _ | exact Kd.N_nil _ _ _ _ _ | exact Kd.V_nil _ _ _ _ _ | exact Kd.Q_nil _ _ _ _ _ | exact Kd.R_nil _ _ _ _ _, by repeat (first | (with_reducible first | exact HB.out | apply below_alloc | apply pw_below_drewN | apply below_drew1 | refine below_set ?_ GE115.out) | exact HB.out)⟩

-- NOT PRINTED: function 49 (api_Artifact_49)

-- NOT PRINTED: function 13 (trace_End)

-- NOT PRINTED: function 54 (trace_closure)

-- NOT PRINTED: function 15 (trace_Above)

-- NOT PRINTED: function 17 (trace_Below)

end Go.Proofs.Ytlelhmephibfjaa.T

namespace Go.Proofs.Ytlelhmephibfjaa.T
open Go.RowKit Go.Proofs.YtlelhmephibfjaaW.PrintWords Go.Proofs.YtlelhmephibfjaaW.PrintLast Go.Proofs.YtlelhmephibfjaaW.PrintMore
attribute [local go_sem] max2_int min2_int max_two min_two

set_option maxHeartbeats 16000000 in
set_option maxRecDepth 100000 in
theorem one_calls (A : Option Addr) (l : List S25) (c k : Nat) (w : World) (hr : Kd.C k25 w A l.length l) (hc : l.length ≤ c) (hl : l.length ≤ 1000) (hof : ∀ x ∈ l, x.f3.length ≤ 1000)
    (hk : k < l.length) (hf : ∀ x ∈ l.take k, formedS x = true) :
    Calls Try.prog 66 #[.slice A l.length c, .int .i64 k] w fun e w' => e = .returned (.int .i64 (oneS (l.take k) l[k])) ∧ Below w.heap.size w w' := by
  have hu25 := Try.underlying25
  have HR := Aside0.mk hr
  have HF := Aside0.mk hf
  obtain ⟨ad, A3, c3, e1, x0, x1, x2, x3, x4, x5, x6, x7, x8, x9, hl3, hi3⟩ := at_T25 hr (k : Int) (by omega) (by omega)
  subst e1
  rw [rd25_get l k hk] at x0 x1 x2 x3 x4 x5 x6 x7 x8 x9 hl3 hi3
  rw [Int.toNat_natCast] at x0 x1 x2 x3 x4 x5 x6 x7 x8 x9
  have HL3 := Aside0.mk hl3
  have HI3 := Aside0.mk hi3
  have hx : (l[k]).f3.length ≤ 1000 := hof _ (List.getElem_mem hk)
  have hlt : (l.take k).length = k := by rw [List.length_take]; omega
  clear hl3 hi3 hr hf hof
  generalize l[k] = a at *
  go_enter Try.func66, Try.ntmps66
  go_wp2_with fail
  clear x0 x1 x2 x3 x4 x5 x6 x7 x8 x9
  refine (rformed_calls a A3 c3 _ (Kd.C_alloc HI3.out _) HL3.out (by omega)).mono ?_
  rintro e w1 ⟨rfl, hb⟩
  have K4 := Aside0.mk (blk_below (blk_new w _) hb)
  have HB1 : Aside0 (Below w.heap.size w w1) := ⟨below_step (by (repeat (first | with_reducible exact (Below.refl _ _) | with_reducible exact Below.refl _ _ | with_reducible refine below_drew ?_ | with_reducible refine pw_below_drewN ?_ _ | with_reducible refine below_alloc ?_ _))) hb⟩
  clear hb
  cases hform : formedS a with
  | false =>
    have ho : oneS (l.take k) a = 3 := by unfold oneS; rw [if_pos hform]
    have HO := Aside0.mk ho
    clear ho
    go_wp2
    go_ret
    exact ⟨by rw [HO.out]; rfl, HB1.out⟩
  | true =>
    have HFM := Aside0.mk hform
    clear hform
    go_wp2
    go_cut [34] (fun v34 wc => v34 = .bool (decide (0 < k ∧ a.f0 ≤ lastId (l.take k))) ∧ Aside0 (Below w.heap.size w wc) ∧ Aside0 (wc.heap[w.heap.size]? = some (.cells #[.int .i64 a.f0, .int .i64 a.f1, .int .i64 a.f2, .slice A3 a.f3.length c3, .int .i64 a.f4, .int .i64 a.f5, .int .i64 a.f6, .int .i64 a.f7, .int .i64 a.f8, .int .i64 a.f9] 25 (0, 0))))
    case first =>
      have c4' := blk_cell K4.out
      by_cases hj0 : k = 0
      · subst hj0
        go_quiet (fail)
        go_wp2
        go_meet
        case rel => exact ⟨by simp, ⟨pw_below_drewN HB1.out _⟩, K4⟩
      · obtain ⟨m, rfl⟩ : ∃ m, k = m + 1 := ⟨k - 1, by omega⟩
        obtain ⟨ad', _, _, e1, x0, _⟩ := at_T25 (Kd.C_below HR.out HB1.out) (m : Int) (by omega) (by omega)
        obtain rfl := Option.some.inj e1
        rw [rd25_get l m (by omega)] at x0
        rw [Int.toNat_natCast] at x0
        have g1 : decide ((0 : Int) < ((m + 1 : Nat) : Int)) = true := by simp
        have g2 : decide (0 < m + 1) = true := by simp
        have g3 : (if (0 : Int) < ((m : Nat) : Int) then ((m : Nat) : Int) else 0) = m := by split <;> omega
        have g4 : (if 0 < m then ((m : Nat) : Int) else 0) = m := by split <;> omega
        have hlast : lastId (l.take (m + 1)) = (l[m]'(by omega)).f0 := by
          unfold lastId
          have e : (l.take (m + 1)).length = m + 1 := by rw [List.length_take]; omega
          rw [e, show (((m + 1 : Nat) : Int) - 1) = (m : Int) by omega, rd25_get _ m (by omega), List.getElem_take]
        have HLAST := Aside0.mk hlast
        clear hlast
        go_quiet (fail)
        go_wp2
        go_meet
        case rel => exact ⟨by rw [HLAST.out]; simp, ⟨pw_below_drewN HB1.out _⟩, K4⟩
    case rest =>
      clear HB1 K4
      obtain ⟨rfl, HB1, K4⟩ := hcut
      by_cases hc9 : 0 < k ∧ a.f0 ≤ lastId (l.take k)
      · have ho : oneS (l.take k) a = 9 := by
          unfold oneS; rw [if_neg (by rw [HFM.out]; simp), if_pos ⟨by rw [hlt]; omega, hc9.2⟩]
        have HO := Aside0.mk ho
        rw [decide_eq_true hc9]
        clear ho hc9
        go_wp2
        go_ret
        exact ⟨by rw [HO.out]; rfl, HB1.out⟩
      · have ho : oneS (l.take k) a = (if a.f3.any (fun id => decide (findS (l.take k) id < 0)) = true then 8 else refErr (l.take k) a a.f3) := by
          unfold oneS; rw [if_neg (by rw [HFM.out]; simp), if_neg (by rw [hlt]; rintro ⟨h1, h2⟩; exact hc9 ⟨by omega, h2⟩)]
        have HO := Aside0.mk ho
        rw [decide_eq_false hc9]
        clear ho hc9
        go_wp2
        go_loopw [7] (fun v w3 => ∃ i : Nat, v = .int .i64 i ∧ i ≤ a.f3.length ∧ Aside0 (∀ id ∈ a.f3.take i, 0 ≤ findS (l.take k) id) ∧ Aside0 (Below w.heap.size w w3) ∧ Aside0 (w3.heap[w.heap.size]? = some (.cells #[.int .i64 a.f0, .int .i64 a.f1, .int .i64 a.f2, .slice A3 a.f3.length c3, .int .i64 a.f4, .int .i64 a.f5, .int .i64 a.f6, .int .i64 a.f7, .int .i64 a.f8, .int .i64 a.f9] 25 (0, 0)))) (fun v _ => a.f3.length - (intOf v).toNat)
        case atStart => exact ⟨0, rfl, by omega, ⟨by simp⟩, HB1, K4⟩
        case round =>
          clear HB1 K4
          obtain ⟨i, rfl, hi, HN, HB1, K4⟩ := hrel
          have c4' := blk_cell K4.out
          by_cases hil : i < a.f3.length
          · obtain ⟨ad3, e3, y0⟩ := Kd.at_int (Kd.C_below HI3.out HB1.out) (i : Int) (by omega) (by omega)
            subst e3
            rw [rd_get _ _ hil] at y0
            rw [Int.toNat_natCast] at y0
            have ht : a.f3.take (i + 1) = a.f3.take i ++ [a.f3[i]] := by rw [List.take_succ_eq_append_getElem hil]
            have HT := Aside0.mk ht
            obtain ⟨kf, hkf⟩ := (find_r l k a.f3[i] (by omega) (by omega)).rounds
            have HKF := Aside0.mk hkf
            clear hkf ht
            go_wp2_with fail
            clear c4' y0
            refine (quietusref38_Find.calls kf (some ad) c l k a.f3[i] _ _ (Kd.C_below HR.out HB1.out) hc HKF.out).mono ?_
            rintro e w4 ⟨rfl, hb⟩
            have HB2 := Aside0.mk (below_step HB1.out hb.below)
            replace K4 := Aside0.mk (blk_below K4.out hb.below)
            clear hb HB1 HKF
            by_cases hneg : findS (l.take k) a.f3[i] < 0
            · have ho : oneS (l.take k) a = 8 := by
                rw [HO.out, if_pos (List.any_eq_true.2 ⟨a.f3[i], List.getElem_mem hil, by simpa using hneg⟩)]
              have H8 := Aside0.mk ho
              have hneg' : decide (findS (l.take k) a.f3[i] < 0) = true := by simpa using hneg
              generalize findS (l.take k) a.f3[i] = q at *
              clear ho hneg HO
              go_wp2
              go_ret
              exact ⟨by rw [H8.out]; rfl, HB2.out⟩
            · have hneg' : decide (findS (l.take k) a.f3[i] < 0) = false := by simpa using hneg
              have hn : ∀ id ∈ a.f3.take (i + 1), 0 ≤ findS (l.take k) id := by
                rw [HT.out]
                intro x hx
                rcases List.mem_append.1 hx with hx | hx
                · exact HN.out x hx
                · rw [List.mem_singleton.1 hx]; omega
              have HN2 := Aside0.mk hn
              clear hn hneg HT HN
              generalize findS (l.take k) a.f3[i] = q at *
              go_wp2
              go_roundw
              case rel => exact ⟨i + 1, by go_num, by omega, HN2, HB2, K4⟩
              case measure => simp [intOf]; omega
          · have hie : i = a.f3.length := by omega
            subst hie
            have hn := HN.out
            rw [List.take_length] at hn
            have ho : oneS (l.take k) a = refErr (l.take k) a a.f3 := by
              rw [HO.out, if_neg]
              simpa using hn
            have HO2 := Aside0.mk ho
            have HN2 := Aside0.mk hn
            clear hn ho HO HN
            go_wp2
            clear c4'
            go_loopw [9] (fun v w3 => ∃ i : Nat, v = .int .i64 i ∧ i ≤ a.f3.length ∧ Aside0 (refErr (l.take k) a a.f3 = refErr (l.take k) a (a.f3.drop i)) ∧ Aside0 (Below w.heap.size w w3) ∧ Aside0 (w3.heap[w.heap.size]? = some (.cells #[.int .i64 a.f0, .int .i64 a.f1, .int .i64 a.f2, .slice A3 a.f3.length c3, .int .i64 a.f4, .int .i64 a.f5, .int .i64 a.f6, .int .i64 a.f7, .int .i64 a.f8, .int .i64 a.f9] 25 (0, 0)))) (fun v _ => a.f3.length - (intOf v).toNat)
            case atStart => exact ⟨0, rfl, by omega, ⟨rfl⟩, HB1, K4⟩
            case round =>
              clear HB1 K4
              obtain ⟨i, rfl, hi, HR3, HB1, K4⟩ := hrel
              have c4' := blk_cell K4.out
              by_cases hil : i < a.f3.length
              · obtain ⟨ad3, e3, y0⟩ := Kd.at_int (Kd.C_below HI3.out HB1.out) (i : Int) (by omega) (by omega)
                subst e3
                rw [rd_get _ _ hil] at y0
                rw [Int.toNat_natCast] at y0
                have hmem : a.f3[i] ∈ a.f3 := List.getElem_mem hil
                have hd3 : a.f3.drop i = a.f3[i] :: a.f3.drop (i + 1) := List.drop_eq_getElem_cons hil
                have hr3 := HR3.out
                rw [hd3, refErr] at hr3
                have hq0 : 0 ≤ findS (l.take k) a.f3[i] := by have := HN2.out _ hmem; omega
                have hq1 := (idxFrom_lt (fun x : S25 => x.f0 == a.f3[i]) (l.take k) 0 (by omega)).1
                have hql : findS (l.take k) a.f3[i] < k := by unfold findS; omega
                have HFO := Aside0.mk (HF.out _ (rd25_mem (l.take k) _ hq0 (by rw [hlt]; omega)))
                rw [rd25_take l k _ hq0 (by rw [hlt]; omega)] at hr3 HFO
                obtain ⟨kf, hkf⟩ := (find_r l k a.f3[i] (by omega) (by omega)).rounds
                have HKF := Aside0.mk hkf
                clear hq1 hkf hmem hd3
                generalize findS (l.take k) a.f3[i] = q at *
                have HRR := Aside0.mk hr3
                clear hr3 HR3
                go_wp2_with fail
                clear c4' y0
                refine (quietusref38_Find.calls kf (some ad) c l k a.f3[i] _ _ (Kd.C_below HR.out HB1.out) hc HKF.out).mono ?_
                rintro e w4 ⟨rfl, hb⟩
                have HB2 := Aside0.mk (below_step HB1.out hb.below)
                replace K4 := Aside0.mk (blk_below K4.out hb.below)
                clear hb HB1 HKF
                obtain ⟨ado, Ao, co, eo, z0, z1, z2, z3, z4, z5, z6, z7, z8, z9, hlo, hio⟩ := at_T25 (Kd.C_below HR.out HB2.out) q hq0 (by omega)
                obtain rfl := Option.some.inj eo
                have HLO := Aside0.mk hlo
                have HIO := Aside0.mk hio
                have hql' : q < (l.length : Int) := by omega
                clear hlo hio
                have c4' := blk_cell K4.out
                have c4'' := blk_cell (blk_alloc K4.out (.cells #[.int .i64 (rd_T25 l q).f0, .int .i64 (rd_T25 l q).f1, .int .i64 (rd_T25 l q).f2, .slice Ao (rd_T25 l q).f3.length co, .int .i64 (rd_T25 l q).f4, .int .i64 (rd_T25 l q).f5, .int .i64 (rd_T25 l q).f6, .int .i64 (rd_T25 l q).f7, .int .i64 (rd_T25 l q).f8, .int .i64 (rd_T25 l q).f9] 25))
                go_wp2_with fail
                clear z0 z1 z2 z3 z4 z5 z6 z7 z8 z9 c4' c4''
                refine (rmade_calls a (rd_T25 l q) _ _ c3 co _ HFM.out HFO.out).mono ?_
                rintro e w5 ⟨rfl, hb⟩
                have KB := Aside0.mk (blk_below (blk_new w4 _) hb)
                replace K4 := Aside0.mk (blk_below (blk_alloc K4.out _) hb)
                have HB3 : Aside0 (Below w.heap.size w w5) := ⟨below_step (by (repeat (first | with_reducible exact HB2.out | with_reducible exact Below.refl _ _ | with_reducible refine below_drew ?_ | with_reducible refine pw_below_drewN ?_ _ | with_reducible refine below_alloc ?_ _))) hb⟩
                have HIO5 := Aside0.mk (Kd.C_below (Kd.C_alloc HIO.out _) hb)
                clear HB2 hb HIO
                have c4' := blk_cell K4.out
                have c4'' := blk_cell KB.out
                go_wp2_with fail
                clear c4' c4''
                refine (quietusref38_There.calls _ _ _ _ co (rd_T25 l q).f3 _ _ _ _ _ _ _ _ _ HIO5.out HLO.out (there_r (rd_T25 l q) a.f6)).mono ?_
                rintro e w6 ⟨rfl, hb⟩
                replace K4 := Aside0.mk (blk_below K4.out hb)
                replace HB3 := Aside0.mk (below_step HB3.out hb)
                clear hb KB
                have h6 := HRR.out
                cases hmd : madeS a (rd_T25 l q) with
                | false =>
                  rw [if_pos hmd] at h6
                  have HO := Aside0.mk (HO2.out.trans h6)
                  clear h6 HO2 HRR
                  go_wp2
                  go_ret
                  exact ⟨by rw [HO.out]; rfl, HB3.out⟩
                | true =>
                  rw [if_neg (by rw [hmd]; simp)] at h6
                  clear HRR
                  cases hth : thereS (rd_T25 l q) a.f6 with
                  | false =>
                    rw [if_pos hth] at h6
                    have HO := Aside0.mk (HO2.out.trans h6)
                    clear h6 HO2
                    go_wp2
                    go_ret
                    exact ⟨by rw [HO.out]; rfl, HB3.out⟩
                  | true =>
                    rw [if_neg (by rw [hth]; simp)] at h6
                    have HR6 := Aside0.mk h6
                    clear h6
                    go_wp2
                    go_roundw
                    case rel => exact ⟨i + 1, by go_num, by omega, HR6, HB3, K4⟩
                    case measure => simp [intOf]; omega
              · have hie : i = a.f3.length := by omega
                subst hie
                have h0 := HR3.out
                rw [List.drop_length, refErr] at h0
                have HO := Aside0.mk (HO2.out.trans h0)
                clear h0 HO2 HR3
                go_wp2
                go_ret
                exact ⟨by rw [HO.out]; rfl, HB1.out⟩
end Go.Proofs.Ytlelhmephibfjaa.T

namespace Go.Proofs.Ytlelhmephibfjaa.T
open Go.RowKit Go.Proofs.YtlelhmephibfjaaW.PrintWords Go.Proofs.YtlelhmephibfjaaW.PrintLast Go.Proofs.YtlelhmephibfjaaW.PrintMore
attribute [local go_sem] max2_int min2_int max_two min_two max_three min_three max_four min_four   -- for this text's walks alone
set_option linter.unusedVariables false
set_option linter.unusedSimpArgs false

/-! ### quietusref38_SameList: function 24 -/
def quietusref38_SameList.l0 : Nat → List Int → List Int → Int → Option (Bool)
  | 0, _, _, _ => none
  | k + 1, x0, x1, x5 => if x5 < (x0.length : Int) then (if 0 ≤ x5 then (if x5 < (x1.length : Int) then (if (rd x0 x5) = (rd x1 x5) then (quietusref38_SameList.l0 k x0 x1 (wrap64 (x5 + 1))) else (some false)) else (none)) else (none)) else (some true)
def quietusref38_SameList.f (k : Nat) (l0 : List Int) (l1 : List Int) : Option (Bool) := if (l0.length : Int) = (l1.length : Int) then (quietusref38_SameList.l0 k l0 l1 0) else (some false)
theorem quietusref38_SameList.mono_l : ∀ k, (∀ y0 y1 y2, LeO (quietusref38_SameList.l0 k y0 y1 y2) (quietusref38_SameList.l0 (k + 1) y0 y1 y2))
  | 0 => fun _ _ _ r h => by simp [quietusref38_SameList.l0] at h
  | k + 1 => by
    have ih0 := quietusref38_SameList.mono_l k
    · intro y0 y1 y2
      unfold quietusref38_SameList.l0
      repeat' first
      | (with_reducible exact ih0 _ _ _)
      | (with_reducible exact LeO.refl _)
      | (with_reducible exact LeO.none _)
      | (with_reducible refine LeO.ite ?_ ?_)
      | (with_reducible refine LeO.bind ?_ (fun _ => ?_))
      | exact ih0 _ _ _
      | exact LeO.none _
      | refine LeO.ite ?_ ?_
      | refine LeO.bind ?_ (fun _ => ?_)
theorem quietusref38_SameList.mono : ∀ a0 a1 k, LeO (quietusref38_SameList.f k a0 a1) (quietusref38_SameList.f (k + 1) a0 a1) := by
  intro a0 a1 k
  have ih0 := quietusref38_SameList.mono_l k
  unfold quietusref38_SameList.f
  repeat' first
      | (with_reducible exact ih0 _ _ _)
      | (with_reducible exact LeO.refl _)
      | (with_reducible exact LeO.none _)
      | (with_reducible refine LeO.ite ?_ ?_)
      | (with_reducible refine LeO.bind ?_ (fun _ => ?_))
      | exact ih0 _ _ _
      | exact LeO.none _
      | refine LeO.ite ?_ ?_
      | refine LeO.bind ?_ (fun _ => ?_)
set_option maxHeartbeats 8000000 in
set_option maxRecDepth 100000 in
theorem quietusref38_SameList.calls (k : Nat) (A0 : Option Addr) (c0 : Nat) (l0 : List Int) (A1 : Option Addr) (c1 : Nat) (l1 : List Int) (r : Bool) (w : World) (hr0 : Kd.C (Kd.int .i64) w A0 l0.length l0) (hc0 : l0.length ≤ c0) (hr1 : Kd.C (Kd.int .i64) w A1 l1.length l1) (hc1 : l1.length ≤ c1) (h : quietusref38_SameList.f k l0 l1 = some r) :
    Calls Try.prog 24 #[.slice A0 l0.length c0, .slice A1 l1.length c1] w fun e w' => e = .returned (.bool r) ∧ Drawn0 w w' := by
  have HR0 := Aside0.mk hr0
  have HC0 := Aside0.mk hc0
  clear hr0 hc0
  have HR1 := Aside0.mk hr1
  have HC1 := Aside0.mk hc1
  clear hr1 hc1
  have H : (if (l0.length : Int) = (l1.length : Int) then (quietusref38_SameList.l0 k l0 l1 0) else (some false)) = some r := h
  clear h
  by_cases c3 : (l0.length : Int) = (l1.length : Int)
  · rw [if_pos c3] at H
    have c3b0 : ((l0.length : Int) == (l1.length : Int)) = true := beq_iff_eq.mpr c3
    have c3b1 : ((l0.length : Int) != (l1.length : Int)) = false := bne_eq_false_iff_eq.mpr c3
    have c3b2 : (l0.length == l1.length) = true := by first | simpa using c3 | (simp at c3 ⊢; omega)
    clear c3
    have H' := Aside0.mk H
    clear H
    go_enter Try.func24, Try.ntmps24
    go_wp2
    repeat (go_quiet (fail); try go_wp2)
    go_loopg [5] k (fun kq v5 w' => ∃ (x5_1 : Int), v5 = .int .i64 x5_1 ∧ Aside0 (quietusref38_SameList.l0 kq l0 l1 x5_1 = some r) ∧ Aside0 (kq ≤ k) ∧ Drawn0 w w')
    case atStart => exact ⟨(0), (by first | rfl | (simp; done) | (simp [*]; done)), H', ⟨Nat.le_refl _⟩, by repeat (first | exact Drawn0.refl _ | apply Drawn0.step)⟩
    case round =>
      clear H'
      try clear c1
      try clear c2
      try clear p2
      try clear c3
      try clear c3b0
      try clear c3b1
      try clear c3b2
      obtain ⟨x5_1, rfl, HA, HK1, ⟨m1, rfl⟩⟩ := hrel
      cases gk with
      | zero => exact absurd HA.out (by simp [quietusref38_SameList.l0])
      | succ k1 =>
        have H := HA.out
        clear HA
        simp only [quietusref38_SameList.l0] at H
        by_cases c4 : x5_1 < (l0.length : Int)
        · rw [if_pos c4] at H
          have c4b0 : decide (x5_1 < (l0.length : Int)) = true := decide_eq_true c4
          clear c4
          by_cases c5 : 0 ≤ x5_1
          · rw [if_pos c5] at H
            have c5b0 : decide (0 ≤ x5_1) = true := decide_eq_true c5
            clear c5
            by_cases c6 : x5_1 < (l1.length : Int)
            · rw [if_pos c6] at H
              have c6b0 : decide (x5_1 < (l1.length : Int)) = true := decide_eq_true c6
              clear c6
              by_cases c7 : (rd l0 x5_1) = (rd l1 x5_1)
              · rw [if_pos c7] at H
                have c7b0 : ((rd l0 x5_1) == (rd l1 x5_1)) = true := beq_iff_eq.mpr c7
                have c7b1 : ((rd l0 x5_1) != (rd l1 x5_1)) = false := bne_eq_false_iff_eq.mpr c7
                clear c7
                have H' := Aside0.mk H
                clear H
                have p137 : 0 ≤ (x5_1 : Int) := of_decide_eq_true (by first | (with_reducible assumption) | assumption)
                have q137 : x5_1 < (l0.length : Int) := of_decide_eq_true (by first | (with_reducible assumption) | assumption)
                obtain ⟨ad137, e137, hx137_0⟩ := Kd.at_int HR0.out x5_1 p137 q137
                cases e137
                replace p137 := eq_true p137
                replace q137 := eq_true q137
                have p138 : 0 ≤ (x5_1 : Int) := of_decide_eq_true (by first | (with_reducible assumption) | assumption)
                have q138 : x5_1 < (l1.length : Int) := of_decide_eq_true (by first | (with_reducible assumption) | assumption)
                obtain ⟨ad138, e138, hx138_0⟩ := Kd.at_int HR1.out x5_1 p138 q138
                cases e138
                replace p138 := eq_true p138
                replace q138 := eq_true q138
                go_wp2
                repeat (go_quiet (fail); try go_wp2)
                go_roundg k1
                case measure => have := HK1.out; omega
                case rel => exact ⟨(wrap64 (x5_1 + 1)), (by first | rfl | (simp; done) | (simp [*]; done)), H', ⟨by have := HK1.out; omega⟩, by repeat (first | exact Drawn0.refl _ | apply Drawn0.step)⟩
              · rw [if_neg c7] at H
                have c7b0 : ((rd l0 x5_1) == (rd l1 x5_1)) = false := beq_eq_false_iff_ne.mpr c7
                have c7b1 : ((rd l0 x5_1) != (rd l1 x5_1)) = true := bne_iff_ne.mpr c7
                obtain rfl := Option.some.inj H
                have p137 : 0 ≤ (x5_1 : Int) := of_decide_eq_true (by first | (with_reducible assumption) | assumption)
                have q137 : x5_1 < (l0.length : Int) := of_decide_eq_true (by first | (with_reducible assumption) | assumption)
                obtain ⟨ad137, e137, hx137_0⟩ := Kd.at_int HR0.out x5_1 p137 q137
                cases e137
                replace p137 := eq_true p137
                replace q137 := eq_true q137
                have p138 : 0 ≤ (x5_1 : Int) := of_decide_eq_true (by first | (with_reducible assumption) | assumption)
                have q138 : x5_1 < (l1.length : Int) := of_decide_eq_true (by first | (with_reducible assumption) | assumption)
                obtain ⟨ad138, e138, hx138_0⟩ := Kd.at_int HR1.out x5_1 p138 q138
                cases e138
                replace p138 := eq_true p138
                replace q138 := eq_true q138
                go_wp2
                repeat (go_quiet (fail); try go_wp2)
                go_ret
                exact ⟨by first | rfl | (simp; done) | (simp [*]; done), by repeat (first | exact Drawn0.refl _ | apply Drawn0.step)⟩
            · rw [if_neg c6] at H
              exact absurd H (by simp)
          · rw [if_neg c5] at H
            exact absurd H (by simp)
        · rw [if_neg c4] at H
          have c4b0 : decide (x5_1 < (l0.length : Int)) = false := decide_eq_false c4
          clear c4
          obtain rfl := Option.some.inj H
          go_wp2
          repeat (go_quiet (fail); try go_wp2)
          go_ret
          exact ⟨by first | rfl | (simp; done) | (simp [*]; done), by repeat (first | exact Drawn0.refl _ | apply Drawn0.step)⟩
  · rw [if_neg c3] at H
    have c3b0 : ((l0.length : Int) == (l1.length : Int)) = false := beq_eq_false_iff_ne.mpr c3
    have c3b1 : ((l0.length : Int) != (l1.length : Int)) = true := bne_iff_ne.mpr c3
    have c3b2 : (l0.length == l1.length) = false := by first | simpa using c3 | (simp at c3 ⊢; omega)
    obtain rfl := Option.some.inj H
    go_enter Try.func24, Try.ntmps24
    go_wp2
    repeat (go_quiet (fail); try go_wp2)
    go_ret
    exact ⟨by first | rfl | (simp; done) | (simp [*]; done), by repeat (first | exact Drawn0.refl _ | apply Drawn0.step)⟩

-- NOT PRINTED: function 23 (quietusref38_Same)

-- NOT PRINTED: function 67 (trace_of)

-- NOT PRINTED: function 25 (trace_At)

-- NOT PRINTED: function 27 (trace_Where)

-- NOT PRINTED: function 29 (trace_Trail)

-- NOT PRINTED: function 31 (trace_Late)

-- NOT PRINTED: function 99 (api_Capture_99)

-- NOT PRINTED: function 91 (api_Capture_91)

end Go.Proofs.Ytlelhmephibfjaa.T

namespace Go.Proofs.Ytlelhmephibfjaa.T
set_option linter.unusedVariables false
set_option linter.unusedSimpArgs false
open Go.RowKit Go.Proofs.YtlelhmephibfjaaW.PrintWords Go.Proofs.YtlelhmephibfjaaW.PrintLast Go.Proofs.YtlelhmephibfjaaW.PrintMore

theorem sameList_loop (l : List Int) (hl : l.length ≤ 1000000) : ∀ (d j : Nat), j + d = l.length → Ev (fun k => quietusref38_SameList.l0 k l l j) true
  | 0, j, hj => by
    refine ev_step1 fun k => ?_
    simp only [quietusref38_SameList.l0]
    rw [if_neg (by omega)]
  | d + 1, j, hj => by
    refine Ev.step (fun k => ?_) (sameList_loop l hl d (j + 1) (by omega))
    simp only [quietusref38_SameList.l0]
    rw [if_pos (by omega), if_pos (by omega), if_pos (by omega), if_pos trivial, w64 _ (by omega) (by omega)]
    rfl
theorem sameList_r (l : List Int) (hl : l.length ≤ 1000000) : Ev (fun k => quietusref38_SameList.f k l l) true := by
  have h : (fun k => quietusref38_SameList.f k l l) = (fun k => quietusref38_SameList.l0 k l l (0 : Nat)) := by
    funext k; unfold quietusref38_SameList.f; rw [if_pos rfl]; rfl
  rw [h]
  exact sameList_loop l hl l.length 0 (by omega)

set_option maxHeartbeats 16000000 in
set_option maxRecDepth 100000 in
theorem same_calls (A B : Option Addr) (l : List S25) (c d : Nat) (w : World) (hr : Kd.C k25 w A l.length l) (hs : Kd.C k25 w B l.length l) (hc : l.length ≤ c) (hd : l.length ≤ d) (hl : l.length ≤ 1000) (hof : ∀ x ∈ l, x.f3.length ≤ 1000) :
    Calls Try.prog 23 #[.slice A l.length c, .slice B l.length d] w fun e w' => e = .returned (.bool true) ∧ Below w.heap.size w w' := by
  have hu25 := Try.underlying25
  have HR := Aside0.mk hr
  have HS := Aside0.mk hs
  have HOF := Aside0.mk hof
  clear hr hs hof
  go_enter Try.func23, Try.ntmps23
  go_wp2
  go_loopw [5] (fun v wr => ∃ j : Nat, v = .int .i64 j ∧ j ≤ l.length ∧ Aside0 (Below w.heap.size w wr)) (fun v _ => l.length - (intOf v).toNat)
  case atStart => exact ⟨0, rfl, by omega, ⟨Below.refl _ _⟩⟩
  case round =>
    obtain ⟨j, rfl, hj, HB⟩ := hrel
    by_cases hlt : j < l.length
    · obtain ⟨ad, A3, c3, e1, x0, x1, x2, x3, x4, x5, x6, x7, x8, x9, hl3, hi3⟩ := at_T25 (Kd.C_below HR.out HB.out) (j : Int) (by omega) (by omega)
      subst e1
      obtain ⟨bd, B3, d3, e2, y0, y1, y2, y3, y4, y5, y6, y7, y8, y9, kl3, ki3⟩ := at_T25 (Kd.C_below HS.out HB.out) (j : Int) (by omega) (by omega)
      subst e2
      rw [rd25_get l j hlt] at x0 x1 x2 x3 x4 x5 x6 x7 x8 x9 hl3 hi3 y0 y1 y2 y3 y4 y5 y6 y7 y8 y9 kl3 ki3
      rw [Int.toNat_natCast] at x0 x1 x2 x3 x4 x5 x6 x7 x8 x9 y0 y1 y2 y3 y4 y5 y6 y7 y8 y9
      have HL3 := Aside0.mk hl3
      have HI3 := Aside0.mk hi3
      have KL3 := Aside0.mk kl3
      have KI3 := Aside0.mk ki3
      have hx : (l[j]).f3.length ≤ 1000 := HOF.out _ (List.getElem_mem hlt)
      obtain ⟨kf, hkf⟩ := (sameList_r l[j].f3 (by omega)).rounds
      have HKF := Aside0.mk hkf
      clear hl3 hi3 kl3 ki3 hkf
      generalize l[j] = a at *
      replace y0 := fun o => keep_alloc (o := o) y0
      replace y1 := fun o => keep_alloc (o := o) y1
      replace y2 := fun o => keep_alloc (o := o) y2
      replace y3 := fun o => keep_alloc (o := o) y3
      replace y4 := fun o => keep_alloc (o := o) y4
      replace y5 := fun o => keep_alloc (o := o) y5
      replace y6 := fun o => keep_alloc (o := o) y6
      replace y7 := fun o => keep_alloc (o := o) y7
      replace y8 := fun o => keep_alloc (o := o) y8
      replace y9 := fun o => keep_alloc (o := o) y9
      go_wp2_with fail
      clear x0 x1 x2 x3 x4 x5 x6 x7 x8 x9 y0 y1 y2 y3 y4 y5 y6 y7 y8 y9
      refine (quietusref38_SameList.calls kf _ c3 a.f3 _ d3 a.f3 _ _ (Kd.C_alloc (Kd.C_alloc HI3.out _) _) HL3.out (Kd.C_alloc (Kd.C_alloc KI3.out _) _) KL3.out HKF.out).mono ?_
      rintro e w1 ⟨rfl, hb⟩
      have K1 := Aside0.mk (blk_below (blk_alloc (blk_new wr _) _) hb.below)
      have K2 := Aside0.mk (blk_below (blk_new (wr.alloc _) _) hb.below)
      rw [World.size_alloc] at K2
      have HB1 : Aside0 (Below w.heap.size w w1) := ⟨below_step (by (repeat (first | with_reducible exact HB.out | with_reducible exact Below.refl _ _ | with_reducible refine below_drew ?_ | with_reducible refine pw_below_drewN ?_ _ | with_reducible refine below_alloc ?_ _))) hb.below⟩
      clear hb HKF HB
      have k1 := blk_cell K1.out
      have k2 := blk_cell K2.out
      go_wp2
      go_roundw
      case rel => exact ⟨j + 1, by go_num, by omega, HB1⟩
      case measure => simp [intOf]; omega
    · have hje : j = l.length := by omega
      subst hje
      go_wp2
      go_ret
      exact ⟨rfl, HB.out⟩
end Go.Proofs.Ytlelhmephibfjaa.T

namespace Go.Proofs.Ytlelhmephibfjaa.T
set_option linter.unusedVariables false
set_option linter.unusedSimpArgs false
open Go.RowKit Go.Proofs.YtlelhmephibfjaaW.PrintWords Go.Proofs.YtlelhmephibfjaaW.PrintLast Go.Proofs.YtlelhmephibfjaaW.PrintMore

instance : DecidableEq S25 := fun a b => decidable_of_iff (a.f0 = b.f0 ∧ a.f1 = b.f1 ∧ a.f2 = b.f2 ∧ a.f3 = b.f3 ∧ a.f4 = b.f4 ∧ a.f5 = b.f5 ∧ a.f6 = b.f6 ∧ a.f7 = b.f7 ∧ a.f8 = b.f8 ∧ a.f9 = b.f9)
  ⟨fun h => by cases a; cases b; simp at h; simp [h], fun h => by subst h; simp⟩
def exL : List S25 := [⟨1, 1, 7, [], 0, -1, 10, 12, -1, 0⟩, ⟨2, 2, 7, [1], 1, 0, 11, 1000001, -1, 0⟩, ⟨3, 2, 7, [2], 2, 0, 20, 30, -1, 0⟩, ⟨4, 3, 7, [], 0, 0, 10, 1000001, 0, 0⟩, ⟨5, 3, 7, [], 1, 0, 10, 25, 1, 0⟩, ⟨6, 4, 7, [2], 3, 0, 11, 1000001, -1, 0⟩]
theorem ex_f : quietuslaw38_example.f = some exL := rfl
theorem ex_of : ∀ x ∈ exL, x.f3.length ≤ 1000 := by decide
theorem ex_check : checkS exL = 0 := by decide +kernel
theorem ex_one : checkS [⟨2, 2, 7, [1], 1, 0, 11, 1000001, -1, 0⟩] = 8 := by decide +kernel
theorem ex_at : AtS exL 7 11 = ([1, 2, 4, 5, 6], 0) := by decide +kernel
theorem ex_where : WhereS exL 7 11 = (11, 0) := by decide +kernel
theorem ex_trail : TrailS exL 7 = (15, 0) := by decide +kernel
theorem ex_late : LateS exL 7 28 = ([2, 4], 0) := by decide +kernel
theorem ex_has : HasS exL 0 [⟨1, 24⟩] = ([2, 5], 0) := by decide +kernel
theorem ex_told1 : ToldS exL 7 2 0 [⟨1, 24⟩, ⟨0, 50⟩] = (true, 0) := by decide +kernel
theorem ex_told2 : ToldS exL 7 2 0 [⟨1, 25⟩, ⟨0, 50⟩] = (false, 0) := by decide +kernel
theorem ex_told3 : ToldS exL 7 2 0 [⟨0, 11⟩, ⟨0, 11⟩] = (true, 0) := by decide +kernel
theorem ex_end1 : EndS exL 2 19 = ([], 1) := by decide +kernel
def exE : List S25 := [⟨1, 1, 7, [], 0, -1, 10, 12, -1, 0⟩, ⟨2, 2, 7, [1], 1, 0, 11, 21, -1, 0⟩, ⟨3, 2, 7, [2], 2, 0, 20, 30, -1, 0⟩, ⟨4, 3, 7, [], 0, 0, 10, 1000001, 0, 0⟩, ⟨5, 3, 7, [], 1, 0, 10, 25, 1, 0⟩, ⟨6, 4, 7, [2], 3, 0, 11, 1000001, -1, 0⟩]
theorem ex_end2 : EndS exL 2 21 = (exE, 0) := by decide +kernel
theorem ex_end3 : EndS exL 1 40 = ([], 4) := by decide +kernel
def exP : List S25 := [⟨1, 1, 7, [], 0, -1, 10, 12, -1, 0⟩, ⟨2, 2, 7, [1], 1, 0, 11, 31, -1, 0⟩, ⟨3, 2, 7, [2], 2, 0, 20, 30, -1, 0⟩, ⟨4, 3, 7, [], 0, 0, 10, 31, 0, 0⟩, ⟨5, 3, 7, [], 1, 0, 10, 25, 1, 0⟩, ⟨6, 4, 7, [2], 3, 0, 11, 1000001, -1, 0⟩]
theorem ex_purge : PurgeS exL 7 31 = (exP, 0) := by decide +kernel
theorem ex_pof : ∀ x ∈ exP, x.f3.length ≤ 1000 := by decide
theorem ex_none : LateS exP 7 31 = ([], 0) := by decide +kernel
theorem ex_add1 : trace_Add.f (exL.take 2) 3 2 7 [2] 2 0 20 30 (-1) 0 = some (exL.take 3, 0) := by decide +kernel
theorem ex_add2 : trace_Add.f exL 7 2 7 [3] 0 0 30 40 (-1) 0 = some ([], 4) := by decide +kernel

theorem fol_eval (S : Nat → List Int) (n at_ : Nat) (T : List Nat) (R : List Bool) (hF : Fol S at_ (S at_) (List.replicate n false) R) (h1 : ∀ x ∈ S at_, 0 ≤ x ∧ x.toNat ∈ T) (h2 : ∀ t ∈ T, ∀ x ∈ S t, 0 ≤ x ∧ x.toNat ∈ T)
    (h3 : ∀ j, j < T.length → ((T.getD j 0 : Nat) : Int) ∈ S at_ ∨ ∃ k, k < j ∧ ((T.getD j 0 : Nat) : Int) ∈ S (T.getD k 0)) : ∀ i, setAt R i = decide (i ∈ T) := by
  have hrep : ∀ i, setAt (List.replicate n false) i = false := fun i => by
    unfold setAt; rw [List.getD_eq_getElem?_getD, List.getElem?_replicate]; split <;> rfl
  have hin : ∀ j, j < T.length → setAt R (T.getD j 0) = true := by
    intro j
    induction j using Nat.strongRecOn with
    | _ j ih =>
      intro hj
      rcases h3 j hj with h | ⟨k, hk, h⟩
      · exact hF.step _ h
      · exact (hF.new _ (ih k hk (by omega)) (hrep _)).2 _ h
  have hway : ∀ i k, Way S i k → ((∀ x ∈ S i, 0 ≤ x ∧ x.toNat ∈ T)) → k ∈ T := by
    intro i k h
    induction h with
    | one h => intro h4; have := h4 _ h; simpa using this.2
    | more h _ ih => intro h4; have := h4 _ h; exact ih (fun x hx => h2 _ (by simpa using this.2) x hx)
  intro i
  by_cases hi : i ∈ T
  · rw [decide_eq_true hi]
    obtain ⟨j, hj, rfl⟩ := List.mem_iff_getElem.1 hi
    have := hin j hj
    rwa [show T.getD j 0 = T[j] by simp [List.getD_eq_getElem?_getD, List.getElem?_eq_getElem hj]] at this
  · rw [decide_eq_false hi]
    cases h : setAt R i with
    | false => rfl
    | true => exact absurd (hway at_ i (hF.new i h (hrep i)).1 h1) hi
theorem fol_list {S : Nat → List Int} {n at_ : Nat} {T : List Nat} {R : List Bool} (hl : R.length = n) (h : ∀ i, setAt R i = decide (i ∈ T)) : R = (List.range n).map (fun i => decide (i ∈ T)) := by
  apply List.ext_getElem
  · simp [hl]
  · intro i h1 h2
    have := h i
    unfold setAt at this
    rw [List.getD_eq_getElem?_getD, List.getElem?_eq_getElem h1] at this
    simpa using this
theorem ex_below {out : List Int} {err : Int} (h : ClosRel exL (downS exL) 1 out err) : out = [2, 3, 6] ∧ err = 0 := by
  rcases h with ⟨h, _⟩ | ⟨_, h, _⟩ | ⟨_, _, rfl, R, hF, rfl⟩
  · exact absurd ex_check h
  · exact absurd h (by decide +kernel)
  · have e : (findS exL 1).toNat = 0 := by decide +kernel
    rw [e] at hF
    have hl := hF.len
    have := fol_eval (downS exL) 6 0 [1, 2, 5] R hF (by decide +kernel) (by decide +kernel) (by decide +kernel)
    rw [fol_list (S := downS exL) (at_ := 0) (T := [1, 2, 5]) (n := 6) (by rw [hl]; rfl) this]
    exact ⟨by decide +kernel, rfl⟩
theorem ex_above {out : List Int} {err : Int} (h : ClosRel exL (upS exL) 3 out err) : out = [1, 2] ∧ err = 0 := by
  rcases h with ⟨h, _⟩ | ⟨_, h, _⟩ | ⟨_, _, rfl, R, hF, rfl⟩
  · exact absurd ex_check h
  · exact absurd h (by decide +kernel)
  · have e : (findS exL 3).toNat = 2 := by decide +kernel
    rw [e] at hF
    have hl := hF.len
    have := fol_eval (upS exL) 6 2 [1, 0] R hF (by decide +kernel) (by decide +kernel) (by decide +kernel)
    rw [fol_list (S := upS exL) (at_ := 2) (T := [1, 0]) (n := 6) (by rw [hl]; rfl) this]
    exact ⟨by decide +kernel, rfl⟩
end Go.Proofs.Ytlelhmephibfjaa.T
