/- Texts of this claim, laid together: TF66, TF22, P2, TF9, G1, G3. -/
import Derived.Test.YtlelhmephibfjaaB1
import Derived.Test.YtlelhmephibfjaaB7
import Derived.Test.YtlelhmephibfjaaB9

namespace Go.Proofs.Ytlelhmephibfjaa.T
open Go.RowKit Go.Proofs.YtlelhmephibfjaaW.PrintWords Go.Proofs.YtlelhmephibfjaaW.PrintLast Go.Proofs.YtlelhmephibfjaaW.PrintMore
attribute [local go_sem] max2_int min2_int max_two min_two max_three min_three max_four min_four   -- for this text's walks alone
set_option linter.unusedVariables false
set_option linter.unusedSimpArgs false

/-! ### quietusref38_one: function 66 -/
-- IMPORT Derived.Test.YtlelhmephibfjaaH4
def quietusref38_one.f (l0 : List S25) (a1 : Int) : Option Int :=
  if 0 ≤ a1 ∧ a1 < l0.length ∧ l0.length ≤ 1000 ∧ (∀ x ∈ l0, x.f3.length ≤ 1000) ∧ (∀ x ∈ l0.take a1.toNat, formedS x = true) then some (oneS (l0.take a1.toNat) (rd_T25 l0 a1)) else none
theorem quietusref38_one.calls (A0 : Option Addr) (c0 : Nat) (l0 : List S25) (a1 : Int) (r : Int) (w : World) (hr0 : Kd.C k25 w A0 l0.length l0) (hc0 : l0.length ≤ c0) (h : quietusref38_one.f l0 a1 = some r) :
    Calls Try.prog 66 #[.slice A0 l0.length c0, .int .i64 a1] w fun e w' => e = .returned (.int .i64 r) ∧ Below w.heap.size w w' := by
  unfold quietusref38_one.f at h
  by_cases c : 0 ≤ a1 ∧ a1 < l0.length ∧ l0.length ≤ 1000 ∧ (∀ x ∈ l0, x.f3.length ≤ 1000) ∧ (∀ x ∈ l0.take a1.toNat, formedS x = true)
  · rw [if_pos c] at h
    obtain ⟨c1, c2, c3, c4, c5⟩ := c
    obtain ⟨j, rfl⟩ := Int.eq_ofNat_of_zero_le c1
    have hj : j < l0.length := by omega
    rw [Int.toNat_natCast] at h c5
    rw [rd25_get l0 j hj] at h
    injection h with h
    subst h
    exact one_calls A0 l0 c0 j w hr0 hc0 c3 c4 hj c5
  · rw [if_neg c] at h; cases h

end Go.Proofs.Ytlelhmephibfjaa.T

namespace Go.Proofs.Ytlelhmephibfjaa.T
open Go.RowKit Go.Proofs.YtlelhmephibfjaaW.PrintWords Go.Proofs.YtlelhmephibfjaaW.PrintLast Go.Proofs.YtlelhmephibfjaaW.PrintMore
attribute [local go_sem] max2_int min2_int max_two min_two max_three min_three max_four min_four   -- for this text's walks alone
set_option linter.unusedVariables false
set_option linter.unusedSimpArgs false

/-! ### quietusref38_Check: function 22 -/
def quietusref38_Check.l0 : Nat → List (S25) → Int → Option (Int)
  | 0, _, _ => none
  | k + 1, x0, x3 => if x3 < (x0.length : Int) then ((quietusref38_one.f x0 x3).bind fun t205 => (if t205 = 0 then (quietusref38_Check.l0 k x0 (wrap64 (x3 + 1))) else (some t205))) else (some 0)
def quietusref38_Check.f (k : Nat) (l0 : List (S25)) : Option (Int) := if (l0.length : Int) > 400 then (some 2) else (quietusref38_Check.l0 k l0 0)
theorem quietusref38_Check.mono_l : ∀ k, (∀ y0 y1, LeO (quietusref38_Check.l0 k y0 y1) (quietusref38_Check.l0 (k + 1) y0 y1))
  | 0 => fun _ _ r h => by simp [quietusref38_Check.l0] at h
  | k + 1 => by
    have ih0 := quietusref38_Check.mono_l k
    · intro y0 y1
      unfold quietusref38_Check.l0
      repeat' first
      | (with_reducible exact ih0 _ _)
      | (with_reducible exact LeO.refl _)
      | (with_reducible exact LeO.none _)
      | (with_reducible refine LeO.ite ?_ ?_)
      | (with_reducible refine LeO.bind ?_ (fun _ => ?_))
      | exact ih0 _ _
      | exact LeO.none _
      | refine LeO.ite ?_ ?_
      | refine LeO.bind ?_ (fun _ => ?_)
theorem quietusref38_Check.mono : ∀ a0 k, LeO (quietusref38_Check.f k a0) (quietusref38_Check.f (k + 1) a0) := by
  intro a0 k
  have ih0 := quietusref38_Check.mono_l k
  unfold quietusref38_Check.f
  repeat' first
      | (with_reducible exact ih0 _ _)
      | (with_reducible exact LeO.refl _)
      | (with_reducible exact LeO.none _)
      | (with_reducible refine LeO.ite ?_ ?_)
      | (with_reducible refine LeO.bind ?_ (fun _ => ?_))
      | exact ih0 _ _
      | exact LeO.none _
      | refine LeO.ite ?_ ?_
      | refine LeO.bind ?_ (fun _ => ?_)
set_option maxHeartbeats 8000000 in
set_option maxRecDepth 100000 in
theorem quietusref38_Check.calls (k : Nat) (A0 : Option Addr) (c0 : Nat) (l0 : List (S25)) (r : Int) (w : World) (hr0 : Kd.C k25 w A0 l0.length l0) (hc0 : l0.length ≤ c0) (h : quietusref38_Check.f k l0 = some r) :
    Calls Try.prog 22 #[.slice A0 l0.length c0] w fun e w' => e = .returned (.int .i64 r) ∧ Below w.heap.size w w' := by
  have HR0 := Aside0.mk hr0
  have HC0 := Aside0.mk hc0
  clear hr0 hc0
  have HB := Aside0.mk (Below.refl w.heap.size w)
  have H : (if (l0.length : Int) > 400 then (some 2) else (quietusref38_Check.l0 k l0 0)) = some r := h
  clear h
  by_cases c2 : (l0.length : Int) > 400
  · rw [if_pos c2] at H
    have c2b0 : decide (400 < (l0.length : Int)) = true := decide_eq_true c2
    have c2b1 : decide (400 < l0.length) = true := decide_eq_true (by omega)
    clear c2
    obtain rfl := Option.some.inj H
    go_enter Try.func22, Try.ntmps22
    go_wp2
    go_ret
    exact ⟨by first | rfl | (simp [errW_none, errW_some] <;> rfl) | (simp [*, errW_none, errW_some] <;> rfl), by repeat (first | (with_reducible first | exact HB.out | apply below_alloc | apply pw_below_drewN | apply below_drew1) | exact HB.out)⟩
  · rw [if_neg c2] at H
    have c2b0 : decide (400 < (l0.length : Int)) = false := decide_eq_false c2
    have c2b1 : decide (400 < l0.length) = false := decide_eq_false (by omega)
    clear c2
    have H' := Aside0.mk H
    clear H
    go_enter Try.func22, Try.ntmps22
    go_wp2
    go_loopg [3] k (fun kq v3 w' => ∃ (x3_1 : Int), v3 = .int .i64 x3_1 ∧ Aside0 (quietusref38_Check.l0 kq l0 x3_1 = some r) ∧ Aside0 (kq ≤ k) ∧ Aside0 (Below w.heap.size w w'))
    case atStart => exact ⟨(0), (by first | rfl | (simp; done) | (simp [*]; done)), H', ⟨Nat.le_refl _⟩, ⟨by repeat (first | (with_reducible first | exact HB.out | apply below_alloc | apply pw_below_drewN | apply below_drew1) | exact HB.out)⟩⟩
    case round =>
      clear H'
      try clear c2
      try clear c2b0
      try clear c2b1
      try clear p2
      obtain ⟨x3_1, rfl, HA, HK1, HB⟩ := hrel
      cases gk with
      | zero => exact absurd HA.out (by simp [quietusref38_Check.l0])
      | succ k1 =>
        have H := HA.out
        clear HA
        simp only [quietusref38_Check.l0] at H
        by_cases c3 : x3_1 < (l0.length : Int)
        · rw [if_pos c3] at H
          have c3b0 : decide (x3_1 < (l0.length : Int)) = true := decide_eq_true c3
          clear c3
          replace H := Option.bind_eq_some_iff.mp H
          obtain ⟨t205, A40, H⟩ := H
          replace H : (if t205 = 0 then (quietusref38_Check.l0 k1 l0 (wrap64 (x3_1 + 1))) else (some t205)) = some r := H
          have A4 := Aside0.mk A40
          clear A40
          by_cases c5 : t205 = 0
          · rw [if_pos c5] at H
            have c5b0 : (t205 == 0) = true := beq_iff_eq.mpr c5
            have c5b1 : (t205 != 0) = false := bne_eq_false_iff_eq.mpr c5
            clear c5
            have H' := Aside0.mk H
            clear H
            go_wp2_with (first | ((with_reducible refine gate_callee (f := 66) rfl ?_); refine goesL_ (some 16) rfl rfl Try.func66 (by kernel_rfl) rfl #[.slice A0 l0.length c0, .int .i64 x3_1] rfl (by (try simp only [List.map_toArray, List.map_cons, List.map_nil]); first | done | rfl | (simp only [List.length_drop, List.length_take]; rfl)) ?_; (with_reducible refine (quietusref38_one.calls _ _ l0 x3_1 t205 _ ?side1 ?side2 A4.out).mono ?_); (case side1 => repeat (first | exact (Kd.C_below HR0.out HB.out) | (with_reducible refine Kd.C_alloc ?_ _) | (with_reducible refine Kd.C_drewN ?_ _) | (with_reducible refine Kd.C_drew ?_))); (case side2 => exact HC0.out); rintro e w6 ⟨rfl, hb⟩; refine ⟨_, rfl, ?_⟩; have n0_ := Aside0.mk (below_step (by repeat (first | (with_reducible first | exact HB.out | apply below_alloc | apply pw_below_drewN | apply below_drew1) | exact HB.out)) hb); clear HB; have HB := n0_; clear n0_; (try clear hb); (try clear hb2); (try clear hk); (try clear hi)))
            go_roundg k1
            case measure => have := HK1.out; omega
            case rel => exact ⟨(wrap64 (x3_1 + 1)), (by first | rfl | (simp; done) | (simp [*]; done)), H', ⟨by have := HK1.out; omega⟩, ⟨by repeat (first | (with_reducible first | exact HB.out | apply below_alloc | apply pw_below_drewN | apply below_drew1) | exact HB.out)⟩⟩
          · rw [if_neg c5] at H
            have c5b0 : (t205 == 0) = false := beq_eq_false_iff_ne.mpr c5
            have c5b1 : (t205 != 0) = true := bne_iff_ne.mpr c5
            obtain rfl := Option.some.inj H
            go_wp2_with (first | ((with_reducible refine gate_callee (f := 66) rfl ?_); refine goesL_ (some 16) rfl rfl Try.func66 (by kernel_rfl) rfl #[.slice A0 l0.length c0, .int .i64 x3_1] rfl (by (try simp only [List.map_toArray, List.map_cons, List.map_nil]); first | done | rfl | (simp only [List.length_drop, List.length_take]; rfl)) ?_; (with_reducible refine (quietusref38_one.calls _ _ l0 x3_1 t205 _ ?side1 ?side2 A4.out).mono ?_); (case side1 => repeat (first | exact (Kd.C_below HR0.out HB.out) | (with_reducible refine Kd.C_alloc ?_ _) | (with_reducible refine Kd.C_drewN ?_ _) | (with_reducible refine Kd.C_drew ?_))); (case side2 => exact HC0.out); rintro e w7 ⟨rfl, hb⟩; refine ⟨_, rfl, ?_⟩; have n0_ := Aside0.mk (below_step (by repeat (first | (with_reducible first | exact HB.out | apply below_alloc | apply pw_below_drewN | apply below_drew1) | exact HB.out)) hb); clear HB; have HB := n0_; clear n0_; (try clear hb); (try clear hb2); (try clear hk); (try clear hi)))
            go_ret
            exact ⟨by first | rfl | (simp [errW_none, errW_some] <;> rfl) | (simp [*, errW_none, errW_some] <;> rfl), by repeat (first | (with_reducible first | exact HB.out | apply below_alloc | apply pw_below_drewN | apply below_drew1) | exact HB.out)⟩
        · rw [if_neg c3] at H
          have c3b0 : decide (x3_1 < (l0.length : Int)) = false := decide_eq_false c3
          clear c3
          obtain rfl := Option.some.inj H
          go_wp2
          go_ret
          exact ⟨by first | rfl | (simp [errW_none, errW_some] <;> rfl) | (simp [*, errW_none, errW_some] <;> rfl), by repeat (first | (with_reducible first | exact HB.out | apply below_alloc | apply pw_below_drewN | apply below_drew1) | exact HB.out)⟩

end Go.Proofs.Ytlelhmephibfjaa.T

namespace Go.Proofs.Ytlelhmephibfjaa.T
open Go.RowKit Go.Proofs.YtlelhmephibfjaaW.PrintWords Go.Proofs.YtlelhmephibfjaaW.PrintLast Go.Proofs.YtlelhmephibfjaaW.PrintMore

theorem formed_of_one {pre : List S25} {a : S25} (h : oneS pre a = 0) : formedS a = true := by
  unfold oneS at h
  split at h
  · cases h
  · rename_i h1; simpa using h1

theorem rcheck_loop (l : List S25) (hl : l.length ≤ 1000) (hof : ∀ x ∈ l, x.f3.length ≤ 1000) : ∀ (d j : Nat), j + d = l.length → (∀ x ∈ l.take j, formedS x = true) →
    Ev (fun k => quietusref38_Check.l0 k l j) (chk (l.take j) (l.drop j))
  | 0, j, hj, hf => by
    refine ev_step1 fun k => ?_
    simp only [quietusref38_Check.l0]
    rw [if_neg (by omega), List.drop_eq_nil_of_le (by omega)]
    rfl
  | d + 1, j, hj, hf => by
    have hlt : j < l.length := by omega
    have hd : l.drop j = l[j] :: l.drop (j + 1) := List.drop_eq_getElem_cons hlt
    have ht : l.take (j + 1) = l.take j ++ [l[j]] := by rw [List.take_succ_eq_append_getElem hlt]
    have ho : quietusref38_one.f l (j : Int) = some (oneS (l.take j) l[j]) := by
      unfold quietusref38_one.f
      rw [if_pos ⟨by omega, by omega, hl, hof, by rwa [Int.toNat_natCast]⟩, Int.toNat_natCast, rd25_get l j hlt]
    rw [hd, chk, ← ht]
    by_cases h0 : oneS (l.take j) l[j] = 0
    · rw [if_pos h0]
      refine Ev.step (fun k => ?_) (rcheck_loop l hl hof d (j + 1) (by omega) ?_)
      · simp only [quietusref38_Check.l0]
        rw [if_pos (by omega), ho, Option.bind_some, if_pos h0, w64 _ (by omega) (by omega)]
        rfl
      · rw [ht]
        intro x hx
        rcases List.mem_append.1 hx with hx | hx
        · exact hf x hx
        · rw [List.mem_singleton.1 hx]; exact formed_of_one h0
    · rw [if_neg h0]
      refine ev_step1 fun k => ?_
      simp only [quietusref38_Check.l0]
      rw [if_pos (by omega), ho, Option.bind_some, if_neg h0]
theorem check_r (l : List S25) (hl : l.length ≤ 1000) (hof : ∀ x ∈ l, x.f3.length ≤ 1000) : Ev (fun k => quietusref38_Check.f k l) (checkS l) := by
  unfold checkS
  by_cases h : l.length > 400
  · rw [if_pos h]
    have e : (fun k => quietusref38_Check.f k l) = fun _ => some 2 := by funext k; unfold quietusref38_Check.f; rw [if_pos (by omega)]
    rw [e]; exact Ev.now _
  · rw [if_neg h]
    have e : (fun k => quietusref38_Check.f k l) = fun k => quietusref38_Check.l0 k l (0 : Nat) := by funext k; unfold quietusref38_Check.f; rw [if_neg (by omega)]; rfl
    rw [e]; exact rcheck_loop l hl hof l.length 0 (by omega) (by simp)
end Go.Proofs.Ytlelhmephibfjaa.T

namespace Go.Proofs.Ytlelhmephibfjaa.T
open Go.RowKit Go.Proofs.YtlelhmephibfjaaW.PrintWords Go.Proofs.YtlelhmephibfjaaW.PrintLast Go.Proofs.YtlelhmephibfjaaW.PrintMore
attribute [local go_sem] max2_int min2_int max_two min_two max_three min_three max_four min_four   -- for this text's walks alone
set_option linter.unusedVariables false
set_option linter.unusedSimpArgs false

/-! ### quietusref38_Few: function 9 -/
mutual
def quietusref38_Few.j0 : Nat → List (S25) → Bool → Option (Bool)
  | 0, _, _ => none
  | k + 1, x0, x19 => if x19 = true then (some false) else (quietusref38_Few.l0 k x0 0)
def quietusref38_Few.l0 : Nat → List (S25) → Int → Option (Bool)
  | 0, _, _ => none
  | k + 1, x0, x5 => if x5 < (x0.length : Int) then (if 0 ≤ x5 then (if (((rd_T25 x0 x5).f3).length : Int) > 20 then (some false) else (quietusref38_Few.l0 k x0 (wrap64 (x5 + 1)))) else (none)) else (some true)
end
def quietusref38_Few.f (k : Nat) (l0 : List (S25)) (a1 : Int) : Option (Bool) := if (l0.length : Int) > a1 then (if (l0.length : Int) ≤ 400 then (quietusref38_Few.j0 k l0 true) else (quietusref38_Few.j0 k l0 (decide ((l0.length : Int) > 410)))) else (quietusref38_Few.j0 k l0 (decide ((l0.length : Int) > 410)))
theorem quietusref38_Few.mono_l : ∀ k, (∀ y0 y1, LeO (quietusref38_Few.j0 k y0 y1) (quietusref38_Few.j0 (k + 1) y0 y1)) ∧ (∀ y0 y1, LeO (quietusref38_Few.l0 k y0 y1) (quietusref38_Few.l0 (k + 1) y0 y1))
  | 0 => ⟨fun _ _ r h => by simp [quietusref38_Few.j0] at h, fun _ _ r h => by simp [quietusref38_Few.l0] at h⟩
  | k + 1 => by
    obtain ⟨ih0, ih1⟩ := quietusref38_Few.mono_l k
    refine ⟨?_, ?_⟩
    · intro y0 y1
      unfold quietusref38_Few.j0
      repeat' first
      | (with_reducible exact ih0 _ _)
      | (with_reducible exact ih1 _ _)
      | (with_reducible exact LeO.refl _)
      | (with_reducible exact LeO.none _)
      | (with_reducible refine LeO.ite ?_ ?_)
      | (with_reducible refine LeO.bind ?_ (fun _ => ?_))
      | exact ih0 _ _
      | exact ih1 _ _
      | exact LeO.none _
      | refine LeO.ite ?_ ?_
      | refine LeO.bind ?_ (fun _ => ?_)
    · intro y0 y1
      unfold quietusref38_Few.l0
      repeat' first
      | (with_reducible exact ih0 _ _)
      | (with_reducible exact ih1 _ _)
      | (with_reducible exact LeO.refl _)
      | (with_reducible exact LeO.none _)
      | (with_reducible refine LeO.ite ?_ ?_)
      | (with_reducible refine LeO.bind ?_ (fun _ => ?_))
      | exact ih0 _ _
      | exact ih1 _ _
      | exact LeO.none _
      | refine LeO.ite ?_ ?_
      | refine LeO.bind ?_ (fun _ => ?_)
theorem quietusref38_Few.mono : ∀ a0 a1 k, LeO (quietusref38_Few.f k a0 a1) (quietusref38_Few.f (k + 1) a0 a1) := by
  intro a0 a1 k
  obtain ⟨ih0, ih1⟩ := quietusref38_Few.mono_l k
  unfold quietusref38_Few.f
  repeat' first
      | (with_reducible exact ih0 _ _)
      | (with_reducible exact ih1 _ _)
      | (with_reducible exact LeO.refl _)
      | (with_reducible exact LeO.none _)
      | (with_reducible refine LeO.ite ?_ ?_)
      | (with_reducible refine LeO.bind ?_ (fun _ => ?_))
      | exact ih0 _ _
      | exact ih1 _ _
      | exact LeO.none _
      | refine LeO.ite ?_ ?_
      | refine LeO.bind ?_ (fun _ => ?_)
set_option maxHeartbeats 8000000 in
set_option maxRecDepth 100000 in
theorem quietusref38_Few.calls (k : Nat) (A0 : Option Addr) (c0 : Nat) (l0 : List (S25)) (a1 : Int) (r : Bool) (w : World) (hr0 : Kd.C k25 w A0 l0.length l0) (hc0 : l0.length ≤ c0) (h : quietusref38_Few.f k l0 a1 = some r) :
    Calls Try.prog 9 #[.slice A0 l0.length c0, .int .i64 a1] w fun e w' => e = .returned (.bool r) ∧ Drawn0 w w' := by
  have HR0 := Aside0.mk hr0
  have HC0 := Aside0.mk hc0
  clear hr0 hc0
  have H : (if (l0.length : Int) > a1 then (if (l0.length : Int) ≤ 400 then (quietusref38_Few.j0 k l0 true) else (quietusref38_Few.j0 k l0 (decide ((l0.length : Int) > 410)))) else (quietusref38_Few.j0 k l0 (decide ((l0.length : Int) > 410)))) = some r := h
  clear h
  have HC3 := Aside0.mk H
  clear H
  go_enter Try.func9, Try.ntmps9
  go_upto_region 1 with (fail)
  go_cut [19] (fun v19 wc => ∃ (kq : Nat) (x19_2 : Bool), v19 = .bool x19_2 ∧ Aside0 (quietusref38_Few.j0 kq l0 x19_2 = some r) ∧ Aside0 (kq ≤ k) ∧ Drawn0 w wc)
  case first =>
    have H := HC3.out
    clear HC3
    by_cases c4 : (l0.length : Int) > a1
    · rw [if_pos c4] at H
      have c4b0 : decide (a1 < (l0.length : Int)) = true := decide_eq_true c4
      clear c4
      (first | rw [c4b0] | (simp only [i64_w, i32_w]; rw [c4b0]) | skip)
      by_cases c5 : (l0.length : Int) ≤ 400
      · rw [if_pos c5] at H
        have c5b0 : decide ((l0.length : Int) ≤ 400) = true := decide_eq_true c5
        have c5b1 : decide (l0.length ≤ 400) = true := decide_eq_true (by omega)
        clear c5
        have H' := Aside0.mk H
        clear H
        go_wp2
        go_meet
        case rel => exact ⟨_, (true), (by first | rfl | (simp; done) | (simp [*]; done)), H', ⟨by first | omega | exact Nat.le_refl _⟩, by repeat (first | exact Drawn0.refl _ | apply Drawn0.step)⟩
      · rw [if_neg c5] at H
        have c5b0 : decide ((l0.length : Int) ≤ 400) = false := decide_eq_false c5
        have c5b1 : decide (l0.length ≤ 400) = false := decide_eq_false (by omega)
        clear c5
        have H' := Aside0.mk H
        clear H
        go_wp2
        go_meet
        case rel => exact ⟨_, (decide ((l0.length : Int) > 410)), (by first | rfl | (simp; done) | (simp [*]; done)), H', ⟨by first | omega | exact Nat.le_refl _⟩, by repeat (first | exact Drawn0.refl _ | apply Drawn0.step)⟩
    · rw [if_neg c4] at H
      have c4b0 : decide (a1 < (l0.length : Int)) = false := decide_eq_false c4
      clear c4
      (first | rw [c4b0] | (simp only [i64_w, i32_w]; rw [c4b0]) | skip)
      have H' := Aside0.mk H
      clear H
      go_wp2
      go_meet
      case rel => exact ⟨_, (decide ((l0.length : Int) > 410)), (by first | rfl | (simp; done) | (simp [*]; done)), H', ⟨by first | omega | exact Nat.le_refl _⟩, by repeat (first | exact Drawn0.refl _ | apply Drawn0.step)⟩
  case rest =>
    clear HC3
    try clear p2
    try clear c4
    try clear c4b0
    try clear c5
    try clear c5b0
    try clear c5b1
    obtain ⟨kq, x19_2, rfl, HA, HJ2, ⟨mc2, rfl⟩⟩ := hcut
    cases kq with
    | zero => exact absurd HA.out (by simp [quietusref38_Few.j0])
    | succ kj2 =>
      have H := HA.out
      clear HA
      simp only [quietusref38_Few.j0] at H
      by_cases c6 : x19_2 = true
      · subst c6
        have H1 : (some false) = some r := by rw [if_pos rfl] at H; exact H
        clear H
        have H := H1
        clear H1
        obtain rfl := Option.some.inj H
        go_wp2
        go_ret
        exact ⟨by first | rfl | (simp; done) | (simp [*]; done), by repeat (first | exact Drawn0.refl _ | apply Drawn0.step)⟩
      · replace c6 := Bool.eq_false_iff.mpr c6
        subst c6
        have H1 : (quietusref38_Few.l0 kj2 l0 0) = some r := by rw [if_neg (show ¬ (false = true) by decide)] at H; exact H
        clear H
        have H := H1
        clear H1
        have H' := Aside0.mk H
        clear H
        go_wp2
        go_loopg [5] kj2 (fun kq v5 w' => ∃ (x5_2 : Int), v5 = .int .i64 x5_2 ∧ Aside0 (quietusref38_Few.l0 kq l0 x5_2 = some r) ∧ Aside0 (kq ≤ kj2) ∧ Drawn0 w w')
        case atStart => exact ⟨(0), (by first | rfl | (simp; done) | (simp [*]; done)), H', ⟨Nat.le_refl _⟩, by repeat (first | exact Drawn0.refl _ | apply Drawn0.step)⟩
        case round =>
          clear H'
          try clear c2
          try clear p2
          try clear c4
          try clear c4b0
          try clear c5
          try clear c5b0
          try clear c5b1
          try clear c6
          try clear p2
          obtain ⟨x5_2, rfl, HA, HK2, ⟨m2, rfl⟩⟩ := hrel
          cases gk with
          | zero => exact absurd HA.out (by simp [quietusref38_Few.l0])
          | succ k2 =>
            have H := HA.out
            clear HA
            simp only [quietusref38_Few.l0] at H
            by_cases c7 : x5_2 < (l0.length : Int)
            · rw [if_pos c7] at H
              have c7b0 : decide (x5_2 < (l0.length : Int)) = true := decide_eq_true c7
              clear c7
              by_cases c8 : 0 ≤ x5_2
              · rw [if_pos c8] at H
                have c8b0 : decide (0 ≤ x5_2) = true := decide_eq_true c8
                clear c8
                by_cases c9 : (((rd_T25 l0 x5_2).f3).length : Int) > 20
                · rw [if_pos c9] at H
                  have c9b0 : decide (20 < (((rd_T25 l0 x5_2).f3).length : Int)) = true := decide_eq_true c9
                  have c9b1 : decide (20 < ((rd_T25 l0 x5_2).f3).length) = true := decide_eq_true (by omega)
                  clear c9
                  obtain rfl := Option.some.inj H
                  have p101 : 0 ≤ (x5_2 : Int) := of_decide_eq_true (by first | (with_reducible assumption) | assumption)
                  have q101 : x5_2 < (l0.length : Int) := of_decide_eq_true (by first | (with_reducible assumption) | assumption)
                  obtain ⟨ad101, A101_3, c101_3, e101, hx101_0, hx101_1, hx101_2, hx101_3, hx101_4, hx101_5, hx101_6, hx101_7, hx101_8, hx101_9, hl101_3, hi101_3⟩ := at_T25 HR0.out x5_2 p101 q101
                  cases e101
                  have HR101_3 := Aside0.mk hi101_3
                  have HC101_3 := Aside0.mk hl101_3
                  clear hi101_3 hl101_3
                  replace p101 := eq_true p101
                  replace q101 := eq_true q101
                  go_wp2
                  go_ret
                  exact ⟨by first | rfl | (simp; done) | (simp [*]; done), by repeat (first | exact Drawn0.refl _ | apply Drawn0.step)⟩
                · rw [if_neg c9] at H
                  have c9b0 : decide (20 < (((rd_T25 l0 x5_2).f3).length : Int)) = false := decide_eq_false c9
                  have c9b1 : decide (20 < ((rd_T25 l0 x5_2).f3).length) = false := decide_eq_false (by omega)
                  clear c9
                  have H' := Aside0.mk H
                  clear H
                  have p101 : 0 ≤ (x5_2 : Int) := of_decide_eq_true (by first | (with_reducible assumption) | assumption)
                  have q101 : x5_2 < (l0.length : Int) := of_decide_eq_true (by first | (with_reducible assumption) | assumption)
                  obtain ⟨ad101, A101_3, c101_3, e101, hx101_0, hx101_1, hx101_2, hx101_3, hx101_4, hx101_5, hx101_6, hx101_7, hx101_8, hx101_9, hl101_3, hi101_3⟩ := at_T25 HR0.out x5_2 p101 q101
                  cases e101
                  have HR101_3 := Aside0.mk hi101_3
                  have HC101_3 := Aside0.mk hl101_3
                  clear hi101_3 hl101_3
                  replace p101 := eq_true p101
                  replace q101 := eq_true q101
                  go_wp2
                  go_roundg k2
                  case measure => have := HJ2.out; have := HK2.out; omega
                  case rel => exact ⟨(wrap64 (x5_2 + 1)), (by first | rfl | (simp; done) | (simp [*]; done)), H', ⟨by have := HJ2.out; have := HK2.out; omega⟩, by repeat (first | exact Drawn0.refl _ | apply Drawn0.step)⟩
              · rw [if_neg c8] at H
                exact absurd H (by simp)
            · rw [if_neg c7] at H
              have c7b0 : decide (x5_2 < (l0.length : Int)) = false := decide_eq_false c7
              clear c7
              obtain rfl := Option.some.inj H
              go_wp2
              go_ret
              exact ⟨by first | rfl | (simp; done) | (simp [*]; done), by repeat (first | exact Drawn0.refl _ | apply Drawn0.step)⟩

-- NOT PRINTED: function 82 (api_Artifact_82)

end Go.Proofs.Ytlelhmephibfjaa.T

namespace Go.Proofs.Ytlelhmephibfjaa.T
set_option linter.unusedVariables false
set_option linter.unusedSimpArgs false
open Go.RowKit Go.Proofs.YtlelhmephibfjaaW.PrintWords Go.Proofs.YtlelhmephibfjaaW.PrintLast Go.Proofs.YtlelhmephibfjaaW.PrintMore

theorem few_loop (l : List S25) (hl : l.length ≤ 1000) : ∀ (d j : Nat), j + d = l.length → ∃ r, Ev (fun k => quietusref38_Few.l0 k l (j : Nat)) r ∧ (r = true → ∀ x ∈ l.drop j, x.f3.length ≤ 20)
  | 0, j, hj => by
    refine ⟨true, ev_step1 fun k => ?_, fun _ x hx => ?_⟩
    · simp only [quietusref38_Few.l0]
      rw [if_neg (by omega)]
    · rw [List.drop_eq_nil_of_le (by omega)] at hx; cases hx
  | d + 1, j, hj => by
    have hd : l.drop j = l[j]'(by omega) :: l.drop (j + 1) := List.drop_eq_getElem_cons (by omega)
    by_cases h : ((l[j]'(by omega)).f3.length : Int) > 20
    · refine ⟨false, ev_step1 fun k => ?_, fun h => by cases h⟩
      simp only [quietusref38_Few.l0]
      rw [if_pos (by omega), if_pos (by omega), rd25_get l j (by omega), if_pos h]
    · obtain ⟨r, hr, hx⟩ := few_loop l hl d (j + 1) (by omega)
      refine ⟨r, Ev.step (f := fun k => quietusref38_Few.l0 k l ((j + 1 : Nat) : Int)) (fun k => ?_) hr, fun e x hxm => ?_⟩
      · simp only [quietusref38_Few.l0]
        rw [if_pos (by omega), if_pos (by omega), rd25_get l j (by omega), if_neg h, show wrap64 ((j : Int) + 1) = ((j + 1 : Nat) : Int) from by rw [w64 _ (by omega) (by omega)]; omega]
      · rw [hd] at hxm
        rcases List.mem_cons.1 hxm with rfl | hm
        · omega
        · exact hx e x hm
theorem few_t (l : List S25) (n : Int) : ∃ k r, quietusref38_Few.f k l n = some r ∧ (r = true → l.length ≤ 410 ∧ ∀ x ∈ l, x.f3.length ≤ 20) := by
  by_cases h : l.length > 410
  · refine ⟨1, false, ?_, fun h => by cases h⟩
    unfold quietusref38_Few.f
    have e : decide ((l.length : Int) > 410) = true := decide_eq_true (by omega)
    rw [e, if_neg (by omega : ¬ (l.length : Int) ≤ 400)]
    split <;> simp [quietusref38_Few.j0]
  · obtain ⟨r, hr, hx⟩ := few_loop l (by omega) l.length 0 (by omega)
    obtain ⟨k, hk⟩ := hr.rounds
    have e : decide ((l.length : Int) > 410) = false := decide_eq_false (by omega)
    by_cases h1 : (l.length : Int) > n
    · by_cases h2 : (l.length : Int) ≤ 400
      · refine ⟨1, false, ?_, fun h => by cases h⟩
        unfold quietusref38_Few.f
        rw [if_pos h1, if_pos h2]; simp [quietusref38_Few.j0]
      · refine ⟨k + 1, r, ?_, fun h => ⟨by omega, fun x hxm => hx h x (by simpa using hxm)⟩⟩
        unfold quietusref38_Few.f
        rw [if_pos h1, if_neg h2, e]
        simpa [quietusref38_Few.j0] using hk
    · refine ⟨k + 1, r, ?_, fun h => ⟨by omega, fun x hxm => hx h x (by simpa using hxm)⟩⟩
      unfold quietusref38_Few.f
      rw [if_neg h1, e]
      simpa [quietusref38_Few.j0] using hk
end Go.Proofs.Ytlelhmephibfjaa.T

namespace Go.Proofs.Ytlelhmephibfjaa.T
set_option linter.unusedVariables false
set_option linter.unusedSimpArgs false
open Go.RowKit Go.Proofs.YtlelhmephibfjaaW.PrintWords Go.Proofs.YtlelhmephibfjaaW.PrintLast Go.Proofs.YtlelhmephibfjaaW.PrintMore

def HasS (l : List S25) (bad : Int) (caps : List S71) : List Int × Int :=
  if checkS l ≠ 0 then ([], checkS l) else if spiedS bad caps ≠ 0 then ([], spiedS bad caps) else ((l.filter (fun a => seesS bad caps a)).map (·.f0), 0)
theorem spied_bad {bad : Int} {caps : List S71} (h : spiedS bad caps = 0) : 0 ≤ bad ∧ bad ≤ 4095 := by
  unfold spiedS at h
  by_cases hw : wi bad 0 4095 = false
  · rw [if_pos hw] at h; cases h
  · simp only [wi, Bool.not_eq_false, decide_eq_true_eq] at hw; exact hw
theorem spied_caps {bad : Int} {caps : List S71} (h : spiedS bad caps = 0) : ∀ x ∈ caps, 0 ≤ x.f1 ∧ x.f1 ≤ 1000000 := by
  unfold spiedS at h
  split at h
  · cases h
  split at h
  · cases h
  split at h
  · cases h
  · rename_i h3
    intro x hx
    have h4 : caps.any badcap = false := by simpa using h3
    have := List.any_eq_false.1 h4 x hx
    unfold badcap wi at this
    simp at this
    exact this.2
theorem hasT_loop (l : List S25) (bad : Int) (caps : List S71) (hl : l.length ≤ 1000) (hk : checkS l = 0) (b0 : 0 ≤ bad) (b1 : bad ≤ 4095) (hcl : caps.length ≤ 1000000) :
    ∀ (d j : Nat) (acc : List Int), j + d = l.length → acc.length ≤ j → Ev (fun k => trace_Has.l0 k acc l (l.length : Int) j bad caps) (acc ++ ((l.drop j).filter (fun a => seesS bad caps a)).map (·.f0), 0)
  | 0, j, acc, hj, ha => by
    refine ev_step1 fun k => ?_
    simp only [trace_Has.l0]
    rw [if_neg (by omega), List.drop_eq_nil_of_le (by omega)]
    simp
  | d + 1, j, acc, hj, ha => by
    have hd : l.drop j = l[j]'(by omega) :: l.drop (j + 1) := List.drop_eq_getElem_cons (by omega)
    have hb := where_bd hk (List.getElem_mem (show j < l.length by omega))
    have e1 : wrap64 ((j : Int) + 1) = ((j + 1 : Nat) : Int) := by rw [w64 _ (by omega) (by omega)]; omega
    have hs : trace_sees.f bad caps (l[j]'(by omega)).f0 (l[j]'(by omega)).f1 (l[j]'(by omega)).f2 (l[j]'(by omega)).f3 (l[j]'(by omega)).f4 (l[j]'(by omega)).f5 (l[j]'(by omega)).f6 (l[j]'(by omega)).f7 (l[j]'(by omega)).f8 (l[j]'(by omega)).f9 = some (seesS bad caps (l[j]'(by omega))) := by
      unfold trace_sees.f
      rw [if_pos ⟨hcl, hb.1, hb.2, b0, b1⟩]
    by_cases h : seesS bad caps (l[j]'(by omega)) = true
    · refine Ev.step (f := fun k => trace_Has.l0 k (acc ++ [(l[j]'(by omega)).f0]) l (l.length : Int) ((j + 1 : Nat) : Int) bad caps) (fun k => ?_) ?_
      · simp only [trace_Has.l0]
        rw [if_pos (by omega), if_pos (by omega), if_pos (by omega), rd25_get l j (by omega), hs, Option.bind_some, if_pos h, if_pos (by omega), e1]
      · have := hasT_loop l bad caps hl hk b0 b1 hcl d (j + 1) (acc ++ [(l[j]'(by omega)).f0]) (by omega) (by simp; omega)
        rw [hd, List.filter_cons_of_pos h, List.map_cons]
        simpa using this
    · refine Ev.step (f := fun k => trace_Has.l0 k acc l (l.length : Int) ((j + 1 : Nat) : Int) bad caps) (fun k => ?_) ?_
      · simp only [trace_Has.l0]
        rw [if_pos (by omega), if_pos (by omega), if_pos (by omega), rd25_get l j (by omega), hs, Option.bind_some, if_neg h, e1]
      · have := hasT_loop l bad caps hl hk b0 b1 hcl d (j + 1) acc (by omega) (by omega)
        rw [hd, List.filter_cons_of_neg h]
        exact this
theorem has_t (l : List S25) (bad : Int) (caps : List S71) (hl : l.length ≤ 1000) (hof : ∀ x ∈ l, x.f3.length ≤ 1000) (hcl : caps.length ≤ 1000000) : Ev (fun k => trace_Has.f k l bad caps) (HasS l bad caps) := by
  have hc : trace_Check.f l = some (checkS l) := by unfold trace_Check.f; rw [if_pos ⟨hl, hof⟩]
  have hsp : trace_spied.f bad caps = some (spiedS bad caps) := by unfold trace_spied.f; rw [if_pos hcl]
  unfold HasS
  by_cases h : checkS l = 0
  · rw [if_neg (by simpa using h)]
    by_cases h2 : spiedS bad caps = 0
    · rw [if_neg (by simpa using h2)]
      obtain ⟨b0, b1⟩ := spied_bad h2
      have e : (fun k => trace_Has.f k l bad caps) = fun k => trace_Has.l0 k [] l (l.length : Int) (0 : Nat) bad caps := by
        funext k
        unfold trace_Has.f
        rw [hc, Option.bind_some, if_pos h, hsp, Option.bind_some, if_pos h2]
        rfl
      rw [e]
      simpa using hasT_loop l bad caps hl h b0 b1 hcl l.length 0 [] (by omega) (by simp)
    · rw [if_pos h2]
      have e : (fun k => trace_Has.f k l bad caps) = fun _ => some ([], spiedS bad caps) := by
        funext k
        unfold trace_Has.f
        rw [hc, Option.bind_some, if_pos h, hsp, Option.bind_some, if_neg h2]
      rw [e]; exact Ev.now _
  · rw [if_pos h]
    have e : (fun k => trace_Has.f k l bad caps) = fun _ => some ([], checkS l) := by
      funext k
      unfold trace_Has.f
      rw [hc, Option.bind_some, if_neg h]
    rw [e]; exact Ev.now _

/-! ### more spies -/
theorem bit_test (x h : Int) (h0 : 0 ≤ x) (h1 : x ≤ 4095) : bitS x h = Nat.testBit x.toNat h.toNat := by
  obtain ⟨n, rfl⟩ := Int.eq_ofNat_of_zero_le h0
  have hn : n ≤ 4095 := by omega
  unfold bitS bits
  have e : ((n : Int) / 2 ^ h.toNat) = ((n / 2 ^ h.toNat : Nat) : Int) := by simp
  rw [e]
  generalize hq : n / 2 ^ h.toNat = q
  have hq2 : q ≤ 4095 := by rw [← hq]; exact Nat.le_trans (Nat.div_le_self _ _) hn
  have e2 : (BitVec.ofInt 64 (q : Int) &&& BitVec.ofInt 64 1).toNat = q % 2 := by
    rw [show (BitVec.ofInt 64 (q : Int)) = BitVec.ofNat 64 q by simp, show (BitVec.ofInt 64 1) = BitVec.ofNat 64 1 by rfl, BitVec.toNat_and, BitVec.toNat_ofNat, BitVec.toNat_ofNat, Nat.mod_eq_of_lt (by omega), Nat.mod_eq_of_lt (by decide), Nat.and_one_is_mod]
  show (IntKind.i64.wrap (((BitVec.ofInt 64 (q : Int) &&& BitVec.ofInt 64 1).toNat : Nat) : Int) == 1) = _
  rw [e2]
  rw [Int.toNat_natCast, Nat.testBit_eq_decide_div_mod_eq, hq]
  have : q % 2 = 0 ∨ q % 2 = 1 := by omega
  rcases this with h | h <;> rw [h] <;> decide
theorem bit_or (x y h : Int) (h0 : 0 ≤ x) (h1 : x ≤ 4095) (hB0 : 0 ≤ bits .or .i64 x y) (hB1 : bits .or .i64 x y ≤ 4095) (hb : bitS x h = true) : bitS (bits .or .i64 x y) h = true := by
  rw [bit_test _ _ h0 h1] at hb
  rw [bit_test _ _ hB0 hB1]
  obtain ⟨n, rfl⟩ := Int.eq_ofNat_of_zero_le h0
  have hn : n ≤ 4095 := by omega
  have e : (BitVec.ofInt 64 (n : Int) ||| BitVec.ofInt 64 y).toNat = n ||| (BitVec.ofInt 64 y).toNat := by
    rw [show (BitVec.ofInt 64 (n : Int)) = BitVec.ofNat 64 n by simp, BitVec.toNat_or, BitVec.toNat_ofNat, Nat.mod_eq_of_lt (by omega)]
  have hB : bits .or .i64 (n : Int) y = IntKind.i64.wrap (((BitVec.ofInt 64 (n : Int) ||| BitVec.ofInt 64 y).toNat : Nat) : Int) := rfl
  have hr : (BitVec.ofInt 64 (n : Int) ||| BitVec.ofInt 64 y).toNat < 2 ^ 64 := BitVec.isLt _
  rw [hB, e] at hB0 ⊢
  rw [e] at hr
  generalize hq : (n ||| (BitVec.ofInt 64 y).toNat) = r at *
  have hwr : IntKind.i64.wrap (r : Int) = r ∨ IntKind.i64.wrap (r : Int) < 0 := by
    rw [IntKind.wrap_i64]
    omega
  rcases hwr with h | h
  · rw [h, Int.toNat_natCast, ← hq, Nat.testBit_or]
    rw [Int.toNat_natCast] at hb
    rw [hb, Bool.true_or]
  · exact absurd hB0 (by omega)
theorem sees_more {bad bb : Int} {ca cb : List S71} {a : S25} (h0 : spiedS bad ca = 0) (h1 : spiedS (bits .or .i64 bad bb) (ca ++ cb) = 0) (h : seesS bad ca a = true) : seesS (bits .or .i64 bad bb) (ca ++ cb) a = true := by
  obtain ⟨b0, b1⟩ := spied_bad h0
  obtain ⟨c0, c1⟩ := spied_bad h1
  unfold seesS at *
  rw [Bool.or_eq_true, Bool.and_eq_true] at h
  rw [Bool.or_eq_true, Bool.and_eq_true, List.any_append, Bool.or_eq_true]
  rcases h with ⟨h2, h3⟩ | h2
  · exact .inl ⟨bit_or bad bb _ b0 b1 c0 c1 h2, h3⟩
  · exact .inr (.inl h2)
theorem has_ok {l : List S25} {bad : Int} {ca : List S71} (h : (HasS l bad ca).2 = 0) : spiedS bad ca = 0 ∧ (HasS l bad ca).1 = (l.filter (fun a => seesS bad ca a)).map (·.f0) := by
  unfold HasS at *
  by_cases hk : checkS l = 0
  · rw [if_neg (by simpa using hk)] at *
    by_cases hs0 : spiedS bad ca = 0
    · rw [if_neg (by simpa using hs0)]
      exact ⟨hs0, rfl⟩
    · rw [if_pos hs0] at h; exact absurd h hs0
  · rw [if_pos hk] at h; exact absurd h hk
theorem has_more {l : List S25} {bad bb : Int} {ca cb : List S71} (h0 : (HasS l bad ca).2 = 0) (h1 : (HasS l (bits .or .i64 bad bb) (ca ++ cb)).2 = 0) : ∀ x ∈ (HasS l bad ca).1, x ∈ (HasS l (bits .or .i64 bad bb) (ca ++ cb)).1 := by
  obtain ⟨s0, e0⟩ := has_ok h0
  obtain ⟨s1, e1⟩ := has_ok h1
  rw [e0, e1]
  intro x hx
  obtain ⟨a, ha, rfl⟩ := List.mem_map.1 hx
  obtain ⟨ha1, ha2⟩ := List.mem_filter.1 ha
  exact List.mem_map.2 ⟨a, List.mem_filter.2 ⟨ha1, sees_more s0 s1 ha2⟩, rfl⟩
theorem cnt_mono {xs ys : List S25} (h : ∀ x ∈ xs, x ∈ ys) (p : Nat) : ∀ n, cntF xs p n ≤ cntF ys p n
  | 0 => Nat.le_refl _
  | n + 1 => by
    have ih := cnt_mono h p n
    have hh : holF xs p n = true → holF ys p n = true := by
      unfold holF
      intro he
      obtain ⟨x, hx, hp⟩ := List.any_eq_true.1 he
      exact List.any_eq_true.2 ⟨x, h x hx, hp⟩
    unfold cntF
    by_cases hc : holF xs p n = true
    · rw [if_pos hc, if_pos (hh hc)]; omega
    · rw [if_neg hc]; split <;> omega
theorem en_mono {xs ys : List S25} (h : ∀ x ∈ xs, x ∈ ys) {n m : Int} (hm : m ≤ n) : ∀ p, enF xs n p = true → enF ys m p = true
  | 0 => fun h => by cases h
  | p + 1 => by
    intro he
    unfold enF at *
    rw [Bool.or_eq_true] at *
    rcases he with he | he
    · exact .inl (en_mono h hm p he)
    · have := cnt_mono h p 12
      simp only [decide_eq_true_eq] at he ⊢
      exact .inr (by omega)
theorem toldB_mono {xs ys : List S25} (h : ∀ x ∈ xs, x ∈ ys) {n m : Int} (hm : m ≤ n) (ht : toldB xs n = true) : toldB ys m = true := by
  unfold toldB at *
  by_cases h1 : xs.any (fun a => decide (a.f1 = 1)) = true
  · obtain ⟨x, hx, hp⟩ := List.any_eq_true.1 h1
    rw [if_pos (List.any_eq_true.2 ⟨x, h x hx, hp⟩)]
  · rw [if_neg h1, Bool.and_eq_true] at ht
    split
    · rfl
    · rw [Bool.and_eq_true]
      refine ⟨?_, en_mono h hm _ ht.2⟩
      have h2 := ht.1
      unfold covF at *
      obtain ⟨x, hx, hp⟩ := List.any_eq_true.1 h2
      exact List.any_eq_true.2 ⟨x, h x hx, hp⟩
theorem told_more {l : List S25} {o need m bad bb : Int} {ca cb : List S71} (hm : m ≤ need) (h0 : (ToldS l o need bad ca).2 = 0) (h1 : (ToldS l o m (bits .or .i64 bad bb) (ca ++ cb)).2 = 0) (ht : (ToldS l o need bad ca).1 = true) : (ToldS l o m (bits .or .i64 bad bb) (ca ++ cb)).1 = true := by
  unfold ToldS at *
  by_cases ha0 : askedS l o need 1 12 = 0
  · by_cases ha1 : askedS l o m 1 12 = 0
    · rw [if_neg (by simpa using ha0)] at h0 ht
      rw [if_neg (by simpa using ha1)] at h1 ⊢
      by_cases hs0 : spiedS bad ca = 0
      · by_cases hs1 : spiedS (bits .or .i64 bad bb) (ca ++ cb) = 0
        · rw [if_neg (by simpa using hs0)] at ht
          rw [if_neg (by simpa using hs1)]
          refine toldB_mono ?_ hm ht
          intro x hx
          obtain ⟨h2, h3⟩ := List.mem_filter.1 hx
          exact List.mem_filter.2 ⟨h2, sees_more hs0 hs1 h3⟩
        · rw [if_pos hs1] at h1; exact absurd h1 hs1
      · rw [if_pos hs0] at h0; exact absurd h0 hs0
    · rw [if_pos ha1] at h1; exact absurd h1 ha1
  · rw [if_pos ha0] at h0; exact absurd h0 ha0
/-- what is told without bad houses is told by a capture -/
theorem told_cap {l : List S25} {o need : Int} {ca : List S71} (h0 : (ToldS l o need 0 ca).2 = 0) (ht : (ToldS l o need 0 ca).1 = true) : ∃ c ∈ ca, (AtS l o c.f1).2 = 0 ∧ (AtS l o c.f1).1 ≠ [] := by
  unfold ToldS at h0 ht
  by_cases ha0 : askedS l o need 1 12 = 0
  · rw [if_neg (by simpa using ha0)] at h0 ht
    by_cases hs0 : spiedS 0 ca = 0
    · rw [if_neg (by simpa using hs0)] at ht
      obtain ⟨a, ha⟩ : ∃ a, a ∈ (ofS o l).filter (fun a => seesS 0 ca a) := by
        cases hx : (ofS o l).filter (fun a => seesS 0 ca a) with
        | nil => rw [hx] at ht; simp [toldB, covF] at ht
        | cons x r => exact ⟨x, List.mem_cons_self⟩
      obtain ⟨ha1, ha2⟩ := List.mem_filter.1 ha
      unfold seesS at ha2
      have hb0 : bitS 0 a.f4 = false := by
        unfold bitS
        rw [Int.zero_ediv]
        decide
      rw [hb0, Bool.false_and, Bool.false_or] at ha2
      obtain ⟨c, hc1, hc2⟩ := List.any_eq_true.1 ha2
      unfold capS at hc2
      rw [Bool.and_eq_true] at hc2
      have hct := spied_caps hs0 c hc1
      have hask : askedS l o c.f1 0 1000000 = 0 := by
        unfold askedS at ha0 ⊢
        split at ha0
        · rename_i h5; exact absurd ha0 h5
        · rename_i h5
          rw [if_neg h5]
          split at ha0
          · rename_i h6
            rw [Bool.and_eq_true] at h6
            rw [if_pos]
            rw [h6.1, Bool.true_and]
            unfold wi
            simpa using hct
          · cases ha0
      refine ⟨c, hc1, ?_, ?_⟩
      · unfold AtS; rw [if_neg (by simpa using hask)]
      · unfold AtS
        rw [if_neg (by simpa using hask)]
        simp only [ne_eq, List.map_eq_nil_iff]
        intro hnil
        have : a ∈ (ofS o l).filter (fun a => thereS a c.f1) := List.mem_filter.2 ⟨ha1, hc2.2⟩
        rw [hnil] at this
        cases this
    · rw [if_pos hs0] at h0; exact absurd h0 hs0
  · rw [if_pos ha0] at h0; exact absurd h0 ha0
end Go.Proofs.Ytlelhmephibfjaa.T
