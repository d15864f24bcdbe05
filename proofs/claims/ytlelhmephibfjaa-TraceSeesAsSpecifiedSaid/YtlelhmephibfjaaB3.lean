/- Texts of this claim, laid together: P1, H6, H7. -/
import Derived.Test.YtlelhmephibfjaaB1
import Derived.Test.YtlelhmephibfjaaB2

namespace Go.Proofs.Ytlelhmephibfjaa.T
open Go.RowKit Go.Proofs.YtlelhmephibfjaaW.PrintWords Go.Proofs.YtlelhmephibfjaaW.PrintLast Go.Proofs.YtlelhmephibfjaaW.PrintMore

def thereS (a : S25) (t : Int) : Bool := decide (a.f6 ≤ t ∧ t < a.f7)
theorem there_t (a : S25) (t : Int) : trace_there.f a.f0 a.f1 a.f2 a.f3 a.f4 a.f5 a.f6 a.f7 a.f8 a.f9 t = some (thereS a t) := by
  unfold trace_there.f thereS
  by_cases h : a.f6 ≤ t
  · rw [if_pos h]; congr 1; rw [decide_eq_decide]; omega
  · rw [if_neg h]; congr 1; symm; rw [decide_eq_false_iff_not]; omega
theorem there_r (a : S25) (t : Int) : quietusref38_There.f a.f0 a.f1 a.f2 a.f3 a.f4 a.f5 a.f6 a.f7 a.f8 a.f9 t = some (thereS a t) := there_t a t

theorem has_loop (l : List Int) (x : Int) (hl : l.length ≤ 1000000) : ∀ (d j : Nat), j + d = l.length → Ev (fun k => quietusref38_has.l0 k l x j) (decide (x ∈ l.drop j))
  | 0, j, hj => by
    refine ev_step1 fun k => ?_
    simp only [quietusref38_has.l0]
    rw [if_neg (by omega)]
    have : l.drop j = [] := List.drop_eq_nil_of_le (by omega)
    simp [this]
  | d + 1, j, hj => by
    have hd : l.drop j = l[j]'(by omega) :: l.drop (j + 1) := List.drop_eq_getElem_cons (by omega)
    by_cases h : l[j]'(by omega) = x
    · refine ev_step1 fun k => ?_
      simp only [quietusref38_has.l0]
      rw [if_pos (by omega), if_pos (by omega), rd_get l j (by omega), if_pos h, hd]; simp [h]
    · refine Ev.step (f := fun k => quietusref38_has.l0 k l x ((j + 1 : Nat) : Int)) (fun k => ?_) ?_
      · simp only [quietusref38_has.l0]
        rw [if_pos (by omega), if_pos (by omega), rd_get l j (by omega), if_neg h, w64 _ (by omega) (by omega)]
        rfl
      · have := has_loop l x hl d (j + 1) (by omega)
        rw [hd]
        have e : decide (x ∈ l[j]'(by omega) :: l.drop (j + 1)) = decide (x ∈ l.drop (j + 1)) := by
          rw [decide_eq_decide, List.mem_cons]
          constructor
          · rintro (h' | h')
            · exact absurd h'.symm h
            · exact h'
          · exact Or.inr
        rw [e]; exact this
theorem has_r (l : List Int) (x : Int) (hl : l.length ≤ 1000000) : Ev (fun k => quietusref38_has.f k l x) (decide (x ∈ l)) := has_loop l x hl l.length 0 (by omega)
theorem holds_loop (l : List Int) (x : Int) (hl : l.length ≤ 1000000) : ∀ (d j : Nat), j + d = l.length → Ev (fun k => quietuslaw38_holds.l0 k x l (l.length : Int) j) (decide (x ∈ l.drop j))
  | 0, j, hj => by
    refine ev_step1 fun k => ?_
    simp only [quietuslaw38_holds.l0]
    rw [if_neg (by omega)]
    have : l.drop j = [] := List.drop_eq_nil_of_le (by omega)
    simp [this]
  | d + 1, j, hj => by
    have hd : l.drop j = l[j]'(by omega) :: l.drop (j + 1) := List.drop_eq_getElem_cons (by omega)
    by_cases h : l[j]'(by omega) = x
    · refine ev_step1 fun k => ?_
      simp only [quietuslaw38_holds.l0]
      rw [if_pos (by omega), if_pos (by omega), if_pos (by omega), rd_get l j (by omega), if_pos h, hd]; simp [h]
    · refine Ev.step (f := fun k => quietuslaw38_holds.l0 k x l (l.length : Int) ((j + 1 : Nat) : Int)) (fun k => ?_) ?_
      · simp only [quietuslaw38_holds.l0]
        rw [if_pos (by omega), if_pos (by omega), if_pos (by omega), rd_get l j (by omega), if_neg h, w64 _ (by omega) (by omega)]
        rfl
      · have := holds_loop l x hl d (j + 1) (by omega)
        rw [hd]
        have e : decide (x ∈ l[j]'(by omega) :: l.drop (j + 1)) = decide (x ∈ l.drop (j + 1)) := by
          rw [decide_eq_decide, List.mem_cons]
          constructor
          · rintro (h' | h')
            · exact absurd h'.symm h
            · exact h'
          · exact Or.inr
        rw [e]; exact this
theorem holds_l (l : List Int) (x : Int) (hl : l.length ≤ 1000000) : Ev (fun k => quietuslaw38_holds.f k l x) (decide (x ∈ l)) := holds_loop l x hl l.length 0 (by omega)
theorem index_loop (l : List Int) (x : Int) (hl : l.length ≤ 1000000) : ∀ (d j : Nat), j + d = l.length → Ev (fun k => slices_Index_int_int.l0 k l x (l.length : Int) j) (idxFrom (fun y => decide (x = y)) (l.drop j) j)
  | 0, j, hj => by
    refine ev_step1 fun k => ?_
    simp only [slices_Index_int_int.l0]
    rw [if_neg (by omega)]
    have : l.drop j = [] := List.drop_eq_nil_of_le (by omega)
    simp [this, idxFrom]
  | d + 1, j, hj => by
    have hd : l.drop j = l[j]'(by omega) :: l.drop (j + 1) := List.drop_eq_getElem_cons (by omega)
    by_cases h : x = l[j]'(by omega)
    · refine ev_step1 fun k => ?_
      simp only [slices_Index_int_int.l0]
      rw [if_pos (by omega), if_pos (by omega), if_pos (by omega), rd_get l j (by omega), if_pos h, hd, idxFrom, if_pos (decide_eq_true h)]
    · refine Ev.step (f := fun k => slices_Index_int_int.l0 k l x (l.length : Int) ((j + 1 : Nat) : Int)) (fun k => ?_) ?_
      · simp only [slices_Index_int_int.l0]
        rw [if_pos (by omega), if_pos (by omega), if_pos (by omega), rd_get l j (by omega), if_neg h, w64 _ (by omega) (by omega)]
        rfl
      · have := index_loop l x hl d (j + 1) (by omega)
        rw [hd, idxFrom, if_neg (by simpa using h)]
        exact this
theorem contains_t (l : List Int) (x : Int) (hl : l.length ≤ 1000000) : Ev (fun k => slices_Contains_int_int.f k l x) (decide (x ∈ l)) := by
  unfold slices_Contains_int_int.f
  refine Ev.bind (index_loop l x hl l.length 0 (by omega)) ⟨0, fun k _ => ?_⟩
  simp only
  congr 1
  rw [decide_eq_decide]
  have := idxFrom_ge (fun y => decide (x = y)) l 0 (by omega)
  rw [List.drop_zero]
  have e : (idxFrom (fun y => decide (x = y)) l ((0 : Nat) : Int) ≥ 0) ↔ l.any (fun y => decide (x = y)) = true := this
  rw [e, List.any_eq_true]
  simp
theorem rd25_get (l : List S25) (j : Nat) (h : j < l.length) : rd_T25 l (j : Int) = l[j] := by simp [rd_T25, List.getD_eq_getElem?_getD, List.getElem?_eq_getElem h]
theorem rd71_get (l : List S71) (j : Nat) (h : j < l.length) : rd_T71 l (j : Int) = l[j] := by simp [rd_T71, List.getD_eq_getElem?_getD, List.getElem?_eq_getElem h]
theorem find_loop (l : List S25) (n : Nat) (x : Int) (hn : n ≤ l.length) (hl : l.length ≤ 1000000) : ∀ (d j : Nat), j + d = n → Ev (fun k => quietusref38_Find.l0 k l n x j) (idxFrom (fun a => a.f0 == x) ((l.take n).drop j) j)
  | 0, j, hj => by
    refine ev_step1 fun k => ?_
    simp only [quietusref38_Find.l0]
    rw [if_neg (by omega)]
    have : (l.take n).drop j = [] := List.drop_eq_nil_of_le (by rw [List.length_take]; omega)
    simp [this, idxFrom]
  | d + 1, j, hj => by
    have hd : (l.take n).drop j = l[j]'(by omega) :: (l.take n).drop (j + 1) := by
      rw [List.drop_eq_getElem_cons (by rw [List.length_take]; omega)]; simp
    by_cases h : (l[j]'(by omega)).f0 = x
    · refine ev_step1 fun k => ?_
      simp only [quietusref38_Find.l0]
      rw [if_pos (by omega), if_pos (by omega), if_pos (by omega), rd25_get l j (by omega), if_pos h, hd, idxFrom, if_pos (by simpa using h)]
    · refine Ev.step (f := fun k => quietusref38_Find.l0 k l n x ((j + 1 : Nat) : Int)) (fun k => ?_) ?_
      · simp only [quietusref38_Find.l0]
        rw [if_pos (by omega), if_pos (by omega), if_pos (by omega), rd25_get l j (by omega), if_neg h, w64 _ (by omega) (by omega)]
        rfl
      · have := find_loop l n x hn hl d (j + 1) (by omega)
        rw [hd, idxFrom, if_neg (by simpa using h)]
        exact this
theorem find_r (l : List S25) (n : Nat) (x : Int) (hn : n ≤ l.length) (hl : l.length ≤ 1000000) : Ev (fun k => quietusref38_Find.f k l n x) (findS (l.take n) x) := find_loop l n x hn hl n 0 (by omega)
end Go.Proofs.Ytlelhmephibfjaa.T

namespace Go.Proofs.Ytlelhmephibfjaa.T
open Go.RowKit Go.Proofs.YtlelhmephibfjaaW.PrintWords Go.Proofs.YtlelhmephibfjaaW.PrintLast Go.Proofs.YtlelhmephibfjaaW.PrintMore


def badcap (x : S71) : Bool := !(wi x.f0 0 11) || !(wi x.f1 0 1000000)
def spiedS (bad : Int) (l : List S71) : Int := if wi bad 0 4095 = false then 1 else if l.length > 500 then 2 else if l.any badcap = true then 3 else 0

set_option maxHeartbeats 8000000 in
set_option maxRecDepth 100000 in
theorem spied1_calls (x : S71) (w : World) :
    Calls Try.prog 92 #[V71 x] w fun e w' => e = .returned (.bool (badcap x)) ∧ Below w.heap.size w w' := by
  unfold V71
  go_enter Try.func92, Try.ntmps92
  go_wp2_with fail
  refine (trace_within.calls x.f0 0 11 _ _ (wi_t _ _ _)).mono ?_
  rintro e w1 ⟨rfl, hb⟩
  have K := Aside0.mk (blk_below (blk_new w (.cells #[.int .i64 x.f0, .int .i64 x.f1] 71)) hb.below)
  have HB : Aside0 (Below w.heap.size w w1) := ⟨below_step (by (repeat (first | with_reducible exact (Below.refl _ _) | with_reducible exact Below.refl _ _ | with_reducible refine below_drew ?_ | with_reducible refine pw_below_drewN ?_ _ | with_reducible refine below_alloc ?_ _))) hb.below⟩
  clear hb
  cases h0 : wi x.f0 0 11 with
  | false =>
    have hv : badcap x = true := by unfold badcap; rw [h0]; rfl
    have HV := Aside0.mk hv
    clear hv
    go_wp2
    go_ret
    exact ⟨by rw [HV.out]; rfl, HB.out⟩
  | true =>
    have hv : badcap x = !(wi x.f1 0 1000000) := by unfold badcap; rw [h0]; rfl
    have HV := Aside0.mk hv
    clear hv
    have hk := blk_cell K.out
    go_wp2_with fail
    clear hk
    refine (trace_within.calls x.f1 0 1000000 _ _ (wi_t _ _ _)).mono ?_
    rintro e w2 ⟨rfl, hb⟩
    have HB2 := Aside0.mk (below_step HB.out hb.below)
    clear hb
    go_wp2
    go_ret
    exact ⟨by rw [HV.out]; rfl, HB2.out⟩

set_option maxHeartbeats 8000000 in
set_option maxRecDepth 100000 in
theorem spied_calls (bad : Int) (A : Option Addr) (c : Nat) (l : List S71) (w : World) (hr : Kd.C k71 w A l.length l) (hl : l.length ≤ 1000000) :
    Calls Try.prog 69 #[.agg #[.int .i64 bad, .slice A l.length c]] w fun e w' => e = .returned (.int .i64 (spiedS bad l)) ∧ Below w.heap.size w w' := by
  have HR := Aside0.mk hr
  clear hr
  go_enter Try.func69, Try.ntmps69
  go_wp2_with fail
  refine (trace_within.calls bad 0 4095 _ _ (wi_t _ _ _)).mono ?_
  rintro e w1 ⟨rfl, hb⟩
  have K := Aside0.mk (blk_below (blk_new w (.cells #[.int .i64 bad, .slice A l.length c] 48)) hb.below)
  have HB : Aside0 (Below w.heap.size w w1) := ⟨below_step (by (repeat (first | with_reducible exact (Below.refl _ _) | with_reducible exact Below.refl _ _ | with_reducible refine below_drew ?_ | with_reducible refine pw_below_drewN ?_ _ | with_reducible refine below_alloc ?_ _))) hb.below⟩
  clear hb
  cases h0 : wi bad 0 4095 with
  | false =>
    have hs : spiedS bad l = 1 := by unfold spiedS; rw [if_pos h0]
    have HS := Aside0.mk hs
    clear hs
    go_wp2
    go_ret
    exact ⟨by rw [HS.out]; rfl, HB.out⟩
  | true =>
    have hs : spiedS bad l = if l.length > 500 then 2 else if l.any badcap = true then 3 else 0 := by unfold spiedS; rw [if_neg (by rw [h0]; simp)]
    have hk := blk_cell K.out
    by_cases h5 : l.length > 500
    · rw [if_pos h5] at hs
      have HS := Aside0.mk hs
      have g1 : decide ((500 : Int) < (l.length : Int)) = true := by simp; omega
      have g2 : decide (500 < l.length) = true := by simp; omega
      clear hs
      go_wp2
      go_ret
      exact ⟨by rw [HS.out]; rfl, HB.out⟩
    · rw [if_neg h5] at hs
      have HS := Aside0.mk hs
      have g1 : decide ((500 : Int) < (l.length : Int)) = false := by simp; omega
      have g2 : decide (500 < l.length) = false := by simp; omega
      clear hs
      go_wp2_with fail
      clear hk
      refine (con71_calls 92 #[] badcap A l c w1 (Kd.C_below HR.out HB.out) hl (fun _ _ => rfl) ?_).mono ?_
      · intro x w' _ _
        exact spied1_calls x w'
      · rintro e w2 ⟨rfl, hb⟩
        have HB2 := Aside0.mk (below_step HB.out hb)
        clear hb
        cases h3 : l.any badcap with
        | false =>
          have hs : spiedS bad l = 0 := by rw [HS.out, if_neg (by rw [h3]; simp)]
          have HS2 := Aside0.mk hs
          clear hs
          go_wp2
          go_ret
          exact ⟨by rw [HS2.out]; rfl, HB2.out⟩
        | true =>
          have hs : spiedS bad l = 3 := by rw [HS.out, if_pos h3]
          have HS2 := Aside0.mk hs
          clear hs
          go_wp2
          go_ret
          exact ⟨by rw [HS2.out]; rfl, HB2.out⟩
end Go.Proofs.Ytlelhmephibfjaa.T

namespace Go.Proofs.Ytlelhmephibfjaa.T
set_option linter.unusedVariables false
set_option linter.unusedSimpArgs false
open Go.RowKit Go.Proofs.YtlelhmephibfjaaW.PrintWords Go.Proofs.YtlelhmephibfjaaW.PrintLast Go.Proofs.YtlelhmephibfjaaW.PrintMore

def capS (a : S25) (x : S71) : Bool := decide (x.f0 = a.f4) && thereS a x.f1

set_option maxHeartbeats 8000000 in
set_option maxRecDepth 100000 in
theorem sees1_calls (x : S71) (a : S25) (A3 : Option Addr) (c3 : Nat) (b : Nat) (w : World) (hi : Kd.C (Kd.int .i64) w A3 a.f3.length a.f3) (hc : a.f3.length ≤ c3)
    (hb : w.heap[b]? = some (.cells #[.int .i64 a.f0, .int .i64 a.f1, .int .i64 a.f2, .slice A3 a.f3.length c3, .int .i64 a.f4, .int .i64 a.f5, .int .i64 a.f6, .int .i64 a.f7, .int .i64 a.f8, .int .i64 a.f9] 25 (0, 0))) :
    Calls Try.prog 93 #[V71 x, .pointer (some ⟨b, 0, none⟩)] w fun e w' => e = .returned (.bool (capS a x)) ∧ Below w.heap.size w w' := by
  have HI := Aside0.mk hi
  have HB := Aside0.mk (blk_alloc hb (.cells #[.int .i64 x.f0, .int .i64 x.f1] 71))
  clear hi hb
  unfold V71
  have hk := blk_cell HB.out
  go_enter Try.func93, Try.ntmps93
  by_cases h0 : x.f0 = a.f4
  · have g0 : (x.f0 == a.f4) = true := by simpa using h0
    have hv : capS a x = thereS a x.f1 := by unfold capS; rw [decide_eq_true h0]; rfl
    have HV := Aside0.mk hv
    clear hv h0
    go_wp2_with fail
    clear hk
    refine (trace_there.calls _ _ _ _ c3 a.f3 _ _ _ _ _ _ _ _ _ (Kd.C_alloc HI.out _) hc (there_t a x.f1)).mono ?_
    rintro e w2 ⟨rfl, hb⟩
    have HB2 : Aside0 (Below w.heap.size w w2) := ⟨below_step (by (repeat (first | with_reducible exact (Below.refl _ _) | with_reducible exact Below.refl _ _ | with_reducible refine below_drew ?_ | with_reducible refine pw_below_drewN ?_ _ | with_reducible refine below_alloc ?_ _))) hb⟩
    clear hb
    go_wp2
    go_ret
    exact ⟨by rw [HV.out]; rfl, HB2.out⟩
  · have g0 : (x.f0 == a.f4) = false := by simpa using h0
    have hv : capS a x = false := by unfold capS; rw [decide_eq_false h0]; rfl
    have HV := Aside0.mk hv
    clear hv h0
    go_wp2
    go_ret
    exact ⟨by rw [HV.out]; rfl, by (repeat (first | with_reducible exact (Below.refl _ _) | with_reducible exact Below.refl _ _ | with_reducible refine below_drew ?_ | with_reducible refine pw_below_drewN ?_ _ | with_reducible refine below_alloc ?_ _))⟩

def bitS (bad h : Int) : Bool := bits BinOp.and IntKind.i64 (bad / 2 ^ h.toNat) 1 == 1
def seesS (bad : Int) (l : List S71) (a : S25) : Bool := (bitS bad a.f4 && decide (a.f6 < a.f7)) || l.any (capS a)

set_option maxHeartbeats 8000000 in
set_option maxRecDepth 100000 in
theorem sees_calls (bad : Int) (A : Option Addr) (c : Nat) (l : List S71) (a : S25) (A3 : Option Addr) (c3 : Nat) (w : World) (hr : Kd.C k71 w A l.length l) (hl : l.length ≤ 1000000) (hi : Kd.C (Kd.int .i64) w A3 a.f3.length a.f3) (hc : a.f3.length ≤ c3)
    (h0 : 0 ≤ a.f4) (h1 : a.f4 ≤ 11) (b0 : 0 ≤ bad) (b1 : bad ≤ 4095) :
    Calls Try.prog 70 #[.agg #[.int .i64 bad, .slice A l.length c], .agg #[.int .i64 a.f0, .int .i64 a.f1, .int .i64 a.f2, .slice A3 a.f3.length c3, .int .i64 a.f4, .int .i64 a.f5, .int .i64 a.f6, .int .i64 a.f7, .int .i64 a.f8, .int .i64 a.f9]] w fun e w' => e = .returned (.bool (seesS bad l a)) ∧ Below w.heap.size w w' := by
  have g0 : decide (a.f4 < 0) = false := by simp; omega
  have HR := Aside0.mk hr
  have HI := Aside0.mk hi
  clear hr hi
  have hv : seesS bad l a = ((bitS bad a.f4 && decide (a.f6 < a.f7)) || l.any (capS a)) := rfl
  have hb : (bits BinOp.and IntKind.i64 (bad / 2 ^ a.f4.toNat) 1 == 1) = bitS bad a.f4 := rfl
  cases e1 : bitS bad a.f4 <;> cases e2 : decide (a.f6 < a.f7) <;> rw [e1] at hb <;> rw [e1, e2] at hv <;> simp only [Bool.and_false, Bool.and_true, Bool.false_and, Bool.true_and, Bool.false_or, Bool.true_or] at hv <;> have HV := Aside0.mk hv <;> clear hv e1
  case true.true =>
    go_enter Try.func70, Try.ntmps70
    go_wp2
    go_ret
    exact ⟨by rw [HV.out]; rfl, by (repeat (first | with_reducible exact (Below.refl _ _) | with_reducible exact Below.refl _ _ | with_reducible refine below_drew ?_ | with_reducible refine pw_below_drewN ?_ _ | with_reducible refine below_alloc ?_ _))⟩
  all_goals
    go_enter Try.func70, Try.ntmps70
    go_wp2_with fail
    refine (con71_calls 93 #[.pointer (some ⟨w.heap.size + 1, 0, none⟩)] (capS a) A l c _ (Kd.C_alloc (Kd.C_alloc HR.out _) _) hl (fun _ _ => rfl) ?_).mono ?_
    · intro x w' _ hb2
      have K := blk_below (blk_new (w.alloc _) _) hb2
      rw [World.size_alloc] at K
      exact sees1_calls x a A3 c3 _ w' (Kd.C_below (Kd.C_alloc (Kd.C_alloc HI.out _) _) hb2) hc K
    · rintro e w2 ⟨rfl, hb2⟩
      have HB2 : Aside0 (Below w.heap.size w w2) := ⟨below_step (by (repeat (first | with_reducible exact (Below.refl _ _) | with_reducible exact Below.refl _ _ | with_reducible refine below_drew ?_ | with_reducible refine pw_below_drewN ?_ _ | with_reducible refine below_alloc ?_ _))) hb2⟩
      clear hb2
      go_wp2
      go_ret
      exact ⟨by rw [HV.out]; rfl, HB2.out⟩
end Go.Proofs.Ytlelhmephibfjaa.T
