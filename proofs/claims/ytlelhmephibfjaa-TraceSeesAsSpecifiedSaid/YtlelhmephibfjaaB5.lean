/- Texts of this claim, laid together: TF46, H8, TF21, TF58, H11, H12, H9, H10, H13, H14, H15. -/
import Derived.Test.YtlelhmephibfjaaB1
import Derived.Test.YtlelhmephibfjaaB3
import Derived.Test.YtlelhmephibfjaaB4
import Derived.RangeFuncNested
import Derived.RangeFuncBound
import Derived.RangeFuncCalls
import Derived.RangeFuncLeaves
import Derived.RangeFuncBox
import Derived.Shelf.Abstract
import Derived.WalkKit
import Derived.OwnWalkIn
import Derived.TacticsInMore
import Derived.LoopNIn
import Derived.LoopIn
import Derived.Laws.EntriesVeiled
import Derived.Shelf.RegionOpen

namespace Go.Proofs.Ytlelhmephibfjaa.T
open Go.RowKit Go.Proofs.YtlelhmephibfjaaW.PrintWords Go.Proofs.YtlelhmephibfjaaW.PrintLast Go.Proofs.YtlelhmephibfjaaW.PrintMore
attribute [local go_sem] max2_int min2_int max_two min_two max_three min_three max_four min_four   -- for this text's walks alone
set_option linter.unusedVariables false
set_option linter.unusedSimpArgs false

/-! ### api_Artifact_46: function 46 -/
def api_Artifact_46.f (l0 : List (S25)) : Option ((List (S25))) := (some (([] : List (S25)) : List (S25))).bind fun y109 => (if y109.length + l0.length < 1466015503701 then (some (y109 ++ l0)) else (none))
set_option maxHeartbeats 8000000 in
set_option maxRecDepth 100000 in
theorem api_Artifact_46.calls_some (P0_ : Nat → Prop) (ad_ : Addr) (c0 : Nat) (l0 : List (S25)) (r : List (S25)) (w : World) (hs0 : Kd.V k25 25 w w.heap.size (fun k_ => P0_ k_) (.slice (some ad_) l0.length c0) l0) (h : api_Artifact_46.f l0 = some r) :
    Calls Try.prog 46 #[.slice (some ad_) l0.length c0] w fun e w' => ∃ v0_ : Value, e = .returned (v0_) ∧ Kd.N k25 25 w' w.heap.size (fun k_ => (P0_ k_ ∨ w.heap.size ≤ k_)) v0_ r ∧ Below w.heap.size w w' := by
  have HO0 := Aside0.mk (show Kd.V k25 25 w w.heap.size (fun k_ => (P0_ k_ ∨ w.heap.size ≤ k_)) (.slice (some ad_) l0.length c0) l0 from Kd.V_mono hs0 (fun k_ hk => .inl hk))
  have HB := Aside0.mk (Below.refl w.heap.size w)
  have H : ((some (([] : List (S25)) : List (S25))).bind fun y109 => (if y109.length + l0.length < 1466015503701 then (some (y109 ++ l0)) else (none))) = some r := h
  clear h
  obtain ⟨y109, hy109⟩ : ∃ y_ : List (S25), y_ = (([] : List (S25))) := ⟨_, rfl⟩
  replace H : (if y109.length + l0.length < 1466015503701 then (some (y109 ++ l0)) else (none)) = some r := by first | (rw [hy109]; with_reducible exact H) | (have H2_ := (Option.bind_some _ _).symm.trans H; rw [hy109]; with_reducible exact H2_) | (have H2_ := (Option.bind_some _ _).symm.trans H; with_reducible exact H2_) | with_reducible exact H | (rw [hy109]; exact H) | exact H
  have Ny109 := Aside0.mk hy109
  clear hy109
  by_cases c2 : y109.length + l0.length < 1466015503701
  · rw [if_pos c2] at H
    have LMc2 := Aside0.mk c2
    clear c2
    obtain ⟨y112, hy112⟩ : ∃ y_ : List (S25), y_ = (y109 ++ l0) := ⟨_, rfl⟩
    replace H : (some y112) = some r := by first | (rw [hy112]; with_reducible exact H) | (have H2_ := (Option.bind_some _ _).symm.trans H; rw [hy112]; with_reducible exact H2_) | (have H2_ := (Option.bind_some _ _).symm.trans H; with_reducible exact H2_) | with_reducible exact H | (rw [hy112]; exact H) | exact H
    have Ny112 := Aside0.mk hy112
    clear hy112
    obtain rfl := Option.some.inj H
    have hq : ∀ W, Sem.run Try.prog (binOp BinOp.eql 22 (.slice (some ad_) l0.length c0) (.slice none 0 0)) W = .ok (.bool false) W := fun _ => rfl
    go_enter Try.func46, Try.ntmps46
    go_wp2_with (first | ((with_reducible refine gate_dst (N := 5) rfl ?_); refine Kd.N_lit k25 _ 25 ?hg (N' := 5) ?hd (xs := ([] : List (S25))) (inner := []) (ok := (fun k_ => (P0_ k_ ∨ w.heap.size ≤ k_))) (okp := (fun k_ => (P0_ k_ ∨ w.heap.size ≤ k_))) ?hr ?hp (fun _ hk => hk) ((show ∀ k_, w.heap.size ≤ k_ → (fun k_ => (P0_ k_ ∨ w.heap.size ≤ k_)) k_ from fun k_ hk => (.inr (Nat.le_trans (below_size (by repeat (first | (with_reducible first | exact HB.out | apply below_alloc | apply pw_below_drewN | apply below_drew1) | exact HB.out))) hk))) _ (Nat.le_refl _)) (Below.refl _ _) (Nat.le_refl _) (by simp) ?_; (case hd => rfl); (case hg => rfl); (case hr => first | (go_simp; done) | (go_simp; rfl)); (case hp => exact (Reps.none _ _)); intro v110 w3 ho4 hb hg_ hnew_; clear hg_ hnew_; (first | rw [← Ny109.out] at ho4 | (simp only [Int.reduceToNat] at ho4; rw [← Ny109.out] at ho4)); have n0_ := Aside0.mk (Kd.V_elder' (by (with_reducible repeat (first | apply Kd.V_alloc | apply Kd.V_drewN | apply Kd.V_drew)); exact HO0.out) (Kd.N_base ho4) hb); have n1_ := Aside0.mk (Kd.N_lower ho4 (below_size (by repeat (first | (with_reducible first | exact HB.out | apply below_alloc | apply pw_below_drewN | apply below_drew1) | exact HB.out)))); have n2_ := Aside0.mk (below_step (by repeat (first | (with_reducible first | exact HB.out | apply below_alloc | apply pw_below_drewN | apply below_drew1) | exact HB.out)) hb); clear HO0; clear HB; have HO0 := n0_; have HO111 := n1_; have HB := n2_; clear n0_ n1_ n2_; clear hb ho4) | ((with_reducible refine gate_builtin (b := .append) (xs := #[.tmp 5, .tmp 6]) rfl ?_); at_builtin; refine Kd.N_append_rows k25 (w0 := w) w.heap.size rfl (.tmp 5) (.tmp 6) 22 25 (.agg #[(.int .i64 0), (.int .i64 0), (.int .i64 0), (.slice none 0 0), (.int .i64 0), (.int .i64 0), (.int .i64 0), (.int .i64 0), (.int .i64 0), (.int .i64 0)]) 96 rfl Try.underlying22 info25 rfl (by decide) (by omega) v110 y109 l0 _ _ _ (fun k_ => (P0_ k_ ∨ w.heap.size ≤ k_)) (fun k_ => ((fun k_ => (P0_ k_ ∨ w.heap.size ≤ k_))) k_ ∧ some k_ ≠ (v110 : Value).ownBlock) rfl rfl ?aO ?aR (fun _ hk => hk) ?aF ?aB ?aS ?aL ?_; (case aR => exact (by skip; exact Kd.V_F (Kd.V_mono (ok' := (fun k_ => ((fun k_ => (P0_ k_ ∨ w.heap.size ≤ k_))) k_ ∧ some k_ ≠ (v110 : Value).ownBlock)) (HO0.out) (fun k_ hk => ⟨hk.1, hk.2⟩)))); (case aB => exact (by repeat (first | (with_reducible first | exact HB.out | apply below_alloc | apply pw_below_drewN | apply below_drew1) | exact HB.out))); (case aF => exact (fun k_ hk => (.inr (Nat.le_trans (below_size (by repeat (first | (with_reducible first | exact HB.out | apply below_alloc | apply pw_below_drewN | apply below_drew1) | exact HB.out))) hk)))); (case aO => exact (by (with_reducible repeat (first | apply Kd.N_alloc | apply Kd.N_drewN | apply Kd.N_drew)); exact HO111.out)); (case aS => exact (below_size (by repeat (first | (with_reducible first | exact HB.out | apply below_alloc | apply pw_below_drewN | apply below_drew1) | exact HB.out)))); (case aL => have := LMc2.out; omega); intro v113 w5 ho hb hg hat; rw [← Ny112.out] at ho; have n0_ := Aside0.mk (Kd.V_afterv (ok := (fun k_ => (P0_ k_ ∨ w.heap.size ≤ k_))) (by (with_reducible repeat (first | apply Kd.V_alloc | apply Kd.V_drewN | apply Kd.V_drew)); exact HO0.out) hg hat); have n1_ := Aside0.mk (hb); have n2_ := Aside0.mk (ho); clear HO0; clear HB; clear HO111; have HO0 := n0_; have HB := n1_; have HO114 := n2_; clear n0_ n1_ n2_; clear ho hb hg hat))
    go_ret
    exact ⟨_, by first | rfl | (simp [errW_none, errW_some] <;> rfl) | (simp [*, errW_none, errW_some] <;> rfl), by (with_reducible repeat (first | apply Kd.N_alloc | apply Kd.N_drewN | apply Kd.N_drew)); exact HO114.out, by repeat (first | (with_reducible first | exact HB.out | apply below_alloc | apply pw_below_drewN | apply below_drew1) | exact HB.out)⟩
  · rw [if_neg c2] at H
    exact absurd H (by simp)

set_option maxHeartbeats 8000000 in
set_option maxRecDepth 100000 in
theorem api_Artifact_46.calls (P0_ : Nat → Prop) (A0 : Option Addr) (c0 : Nat) (l0 : List (S25)) (r : List (S25)) (w : World) (hs0 : Kd.V k25 25 w w.heap.size (fun k_ => P0_ k_) (.slice A0 l0.length c0) l0) (h : api_Artifact_46.f l0 = some r) :
    Calls Try.prog 46 #[.slice A0 l0.length c0] w fun e w' => ∃ v0_ : Value, e = .returned (v0_) ∧ Kd.N k25 25 w' w.heap.size (fun k_ => (P0_ k_ ∨ w.heap.size ≤ k_)) v0_ r ∧ Below w.heap.size w w' := by
  cases A0 with
  | some ad_ => exact api_Artifact_46.calls_some P0_ ad_ c0 l0 r w hs0 h
  | none =>
    have hl : l0 = [] := by
      cases l0 with
      | nil => rfl
      | cons x l =>
        exfalso
        have hC : Kd.C k25 w none (x :: l).length (x :: l) := (Kd.V_F hs0) w (fun _ _ _ => rfl)
        obtain ⟨ad, _, _, e, _⟩ := at_T25 hC 0 (by omega) (by simp)
        cases e
    subst hl
    have hr : r = [] := by
      unfold api_Artifact_46.f at h
      simp at h
      exact h
    subst hr
    have hq : ∀ W, Sem.run Try.prog (binOp BinOp.eql 22 (.slice none 0 c0) (.slice none 0 0)) W = .ok (.bool true) W := fun _ => rfl
    go_enter Try.func46, Try.ntmps46
    go_wp2
    go_ret
    exact ⟨_, rfl, by first | exact Kd.N_nil _ _ _ _ _ | exact Kd.R_nil _ _ _ _ _, Below.refl _ _⟩

end Go.Proofs.Ytlelhmephibfjaa.T

namespace Go.Proofs.Ytlelhmephibfjaa.T
set_option linter.unusedVariables false
set_option linter.unusedSimpArgs false
open Go.RowKit Go.Proofs.YtlelhmephibfjaaW.PrintWords Go.Proofs.YtlelhmephibfjaaW.PrintLast Go.Proofs.YtlelhmephibfjaaW.PrintMore

def setGone (a : S25) (v : Int) : S25 := ⟨a.f0, a.f1, a.f2, a.f3, a.f4, a.f5, a.f6, v, a.f8, a.f9⟩

theorem N_gone {W : World} {base g n cap : Nat} {ok : Nat → Prop} {xs : List S25} (HO : Kd.N k25 25 W base ok (.slice (some ⟨g, 0, none⟩) n cap) xs) (i : Nat) (hi : i < xs.length) (v : Int) :
    Kd.N k25 25 (W.setCell ⟨g, i * 10 + 7, none⟩ (.int .i64 v)) base ok (.slice (some ⟨g, 0, none⟩) n cap) (xs.set i (setGone xs[i] v)) ∧ W.grownBy (W.setCell ⟨g, i * 10 + 7, none⟩ (.int .i64 v)) (some g) ∧ (W.cell? ⟨g, i * 10 + 7, none⟩ = some (.int .i64 xs[i].f7)) ∧ W.frozen? ⟨g, i * 10 + 7, none⟩ = false := by
  have hn := (Kd.N_reads' HO).1
  obtain ⟨c, hcl, hF, hcc, hfr⟩ := Kd.N_elem HO z25 (i : Int) (by omega) (by omega)
  rw [Int.toNat_natCast] at hF hcc hfr
  have hx : xs.getD i z25 = xs[i] := by simp [List.getD_eq_getElem?_getD, List.getElem?_eq_getElem hi]
  rw [hx] at hF
  obtain ⟨A3, c3, rfl, hl3, hi3⟩ := k25_openF hF
  have hsz : k25.sz = 10 := rfl
  rw [hsz] at hcc hfr
  have hM := k25_mkF W (fun k => ok k ∧ k ≠ g) (setGone xs[i] v) hl3 hi3
  obtain ⟨h0, rows, hl, hR, hf⟩ := HO
  have hseg := Kd.R_seg (d := Kd.raw k25.sz) (c := [.int .i64 xs[i].f0, .int .i64 xs[i].f1, .int .i64 xs[i].f2, .slice A3 xs[i].f3.length c3, .int .i64 xs[i].f4, .int .i64 xs[i].f5, .int .i64 xs[i].f6, .int .i64 xs[i].f7, .int .i64 xs[i].f8, .int .i64 xs[i].f9]) (seg := [.int .i64 v]) (j := 7) (okp := fun _ => False)
    (Kd.raw_any hR) (i : Int) (by omega) (by omega) rfl (by rw [Int.toNat_natCast]; exact hcc) (by simp [Kd.raw, hsz])
    (x' := [.int .i64 xs[i].f0, .int .i64 xs[i].f1, .int .i64 xs[i].f2, .slice A3 xs[i].f3.length c3, .int .i64 xs[i].f4, .int .i64 xs[i].f5, .int .i64 xs[i].f6, .int .i64 v, .int .i64 xs[i].f8, .int .i64 xs[i].f9])
    (Kd.FK_raw hM) (fun _ hk => hk.elim)
  rw [Int.toNat_natCast] at hseg
  obtain ⟨hr, hg⟩ := hseg
  have e : W.setCells g (i * (Kd.raw k25.sz).sz + 7) [Value.int .i64 v] = W.setCell ⟨g, i * 10 + 7, none⟩ (.int .i64 v) := rfl
  rw [e] at hr hg
  refine ⟨?_, hg, hcc 7 _ rfl, hfr 7⟩
  have := Kd.N_written (i := (i : Int)) (x' := setGone xs[i] v) (okp := fun k => ok k ∧ k ≠ g) h0 hl hf (by rw [Int.toNat_natCast]; exact hr) hg hM (fun k hk => hk)
  rwa [Int.toNat_natCast] at this

/-! ### End -/
def usedS (l : List S25) (id tick : Int) : Bool := l.any (fun a => decide (tick ≤ a.f6) && decide (id ∈ a.f3))
def EndS (l : List S25) (id tick : Int) : List S25 × Int :=
  if checkS l ≠ 0 then ([], checkS l) else if findS l id < 0 then ([], 8) else if (rd_T25 l (findS l id)).f7 ≠ 1000001 then ([], 4)
  else if (!(wi tick (rd_T25 l (findS l id)).f6 1000000) || usedS l id tick) = true then ([], 1)
  else (l.set (findS l id).toNat (setGone (rd_T25 l (findS l id)) tick), 0)

set_option maxHeartbeats 8000000 in
set_option maxRecDepth 100000 in
theorem end1_calls (x : S25) (A3 : Option Addr) (c3 : Nat) (id tick : Int) (b1 b2 : Nat) (w : World) (hl : x.f3.length ≤ c3) (hx : x.f3.length ≤ 1000) (hi : Kd.C (Kd.int .i64) w A3 x.f3.length x.f3)
    (hb1 : w.cell? ⟨b1, 0, none⟩ = some (.int .i64 tick)) (hb2 : w.cell? ⟨b2, 0, none⟩ = some (.int .i64 id)) :
    Calls Try.prog 50 #[V25 x A3 c3, .pointer (some ⟨b1, 0, none⟩), .pointer (some ⟨b2, 0, none⟩)] w fun e w' => e = .returned (.bool (decide (tick ≤ x.f6) && decide (id ∈ x.f3))) ∧ Below w.heap.size w w' := by
  have hu25 := Try.underlying25
  have HI := Aside0.mk hi
  obtain ⟨kf, hkf⟩ := (contains_t x.f3 id (by omega)).rounds
  have HKF := Aside0.mk hkf
  clear hi hkf
  have k1 := keep_alloc (o := .cells #[.int .i64 x.f0, .int .i64 x.f1, .int .i64 x.f2, .slice A3 x.f3.length c3, .int .i64 x.f4, .int .i64 x.f5, .int .i64 x.f6, .int .i64 x.f7, .int .i64 x.f8, .int .i64 x.f9] 25) hb1
  have k2 := keep_alloc (o := .cells #[.int .i64 x.f0, .int .i64 x.f1, .int .i64 x.f2, .slice A3 x.f3.length c3, .int .i64 x.f4, .int .i64 x.f5, .int .i64 x.f6, .int .i64 x.f7, .int .i64 x.f8, .int .i64 x.f9] 25) hb2
  clear hb1 hb2
  unfold V25
  go_enter Try.func50, Try.ntmps50
  by_cases h0 : tick ≤ x.f6
  · have g0 : decide (tick ≤ x.f6) = true := decide_eq_true h0
    rw [g0, Bool.true_and]
    go_wp2_with fail
    refine (slices_Contains_int_int.calls kf A3 c3 x.f3 id _ _ (Kd.C_alloc HI.out _) hl HKF.out).mono ?_
    rintro e w2 ⟨rfl, hb⟩
    have HB2 : Aside0 (Below w.heap.size w w2) := ⟨below_step (by (repeat (first | with_reducible exact (Below.refl _ _) | with_reducible refine below_alloc ?_ _))) hb.below⟩
    clear hb
    go_wp2
    go_ret
    exact ⟨rfl, HB2.out⟩
  · have g0 : decide (tick ≤ x.f6) = false := decide_eq_false h0
    rw [g0, Bool.false_and]
    go_wp2
    go_ret
    exact ⟨rfl, by (repeat (first | with_reducible exact (Below.refl _ _) | with_reducible refine below_alloc ?_ _))⟩

set_option maxHeartbeats 8000000 in
set_option maxRecDepth 100000 in
theorem end_calls (P0_ : Nat → Prop) (A : Option Addr) (c : Nat) (l : List S25) (id tick : Int) (w : World) (hs : Kd.V k25 25 w w.heap.size P0_ (.slice A l.length c) l) (hl : l.length ≤ 1000) (hof : ∀ x ∈ l, x.f3.length ≤ 1000) :
    Calls Try.prog 13 #[.slice A l.length c, .int .i64 id, .int .i64 tick] w fun e w' => ∃ v0_ : Value, e = .returned (.tuple #[v0_, .int .i64 (EndS l id tick).2]) ∧ Kd.N k25 25 w' w.heap.size (fun k_ => P0_ k_ ∨ w.heap.size ≤ k_) v0_ (EndS l id tick).1 ∧ Below w.heap.size w w' := by
  have hu25 := Try.underlying25
  obtain ⟨_, hc, hr⟩ := Kd.V_reads' hs
  have HS := Aside0.mk hs
  have HR := Aside0.mk hr
  have HOF := Aside0.mk hof
  clear hs hr hof
  go_enter Try.func13, Try.ntmps13
  go_wp2_with fail
  refine (check_calls A l c _ (Kd.C_alloc (Kd.C_alloc HR.out _) _) hc hl HOF.out).mono ?_
  rintro e w1 ⟨rfl, hb⟩
  have K4 := Aside0.mk (blk_below (blk_alloc (blk_new w (.cells #[.int .i64 id] 3)) (.cells #[.int .i64 tick] 3)) hb)
  have K5 := Aside0.mk (blk_below (blk_new (w.alloc (.cells #[.int .i64 id] 3)) (.cells #[.int .i64 tick] 3)) hb)
  rw [World.size_alloc] at K5
  have HB1 : Aside0 (Below w.heap.size w w1) := ⟨below_step (by (repeat (first | with_reducible exact (Below.refl _ _) | with_reducible refine below_alloc ?_ _))) hb⟩
  clear hb
  by_cases h0 : checkS l = 0
  · have hE : EndS l id tick = if findS l id < 0 then ([], 8) else if (rd_T25 l (findS l id)).f7 ≠ 1000001 then ([], 4)
        else if (!(wi tick (rd_T25 l (findS l id)).f6 1000000) || usedS l id tick) = true then ([], 1)
        else (l.set (findS l id).toNat (setGone (rd_T25 l (findS l id)) tick), 0) := by unfold EndS; rw [if_neg (by simpa using h0)]
    have HE := Aside0.mk hE
    rw [h0]
    clear hE h0
    have k4 := blk_cell K4.out 0
    go_wp2_with fail
    clear k4
    refine (find_calls A l c id w1 (Kd.C_below HR.out HB1.out) (by omega)).mono ?_
    rintro e w2 ⟨rfl, hb⟩
    replace K4 := Aside0.mk (blk_below K4.out hb)
    replace K5 := Aside0.mk (blk_below K5.out hb)
    have HB2 := Aside0.mk (below_step HB1.out hb)
    clear hb HB1
    by_cases hk : findS l id < 0
    · have hE := HE.out
      rw [if_pos hk] at hE
      have HE2 := Aside0.mk hE
      generalize findS l id = k at *
      clear hE HE
      go_wp2
      go_ret2
      exact ⟨_, by rw [HE2.out]; rfl, by rw [HE2.out]; exact Kd.N_nil _ _ _ _ _, HB2.out⟩
    · have hE := HE.out
      rw [if_neg hk] at hE
      have HE2 := Aside0.mk hE
      have hk2 := (idxFrom_lt (fun a : S25 => a.f0 == id) l 0 (by omega)).1
      have hk0 : 0 ≤ findS l id := by omega
      have hk1 : findS l id < l.length := by unfold findS; omega
      clear hk2 hE HE hk
      generalize findS l id = k at *
      obtain ⟨j, rfl⟩ := Int.eq_ofNat_of_zero_le hk0
      have hj : j < l.length := by omega
      clear hk0
      obtain ⟨ad, A3, c3, e1, x0, x1, x2, x3, x4, x5, x6, x7, x8, x9, hl3, hi3⟩ := at_T25 (Kd.C_below HR.out HB2.out) (j : Int) (by omega) (by omega)
      subst e1
      clear x0 x1 x2 x3 x4 x5 x8 x9 hl3 hi3
      rw [Int.toNat_natCast] at x6 x7
      by_cases h7 : (rd_T25 l j).f7 = 1000001
      · have hE := HE2.out
        rw [if_neg (by simpa using h7)] at hE
        have HE3 := Aside0.mk hE
        have HJ := Aside0.mk (rd25_get l j hj)
        have g7 : ((rd_T25 l j).f7 != 1000001) = false := by simpa using h7
        generalize rd_T25 l j = a at *
        clear hE HE2 h7
        go_wp2
        have k5 := blk_cell K5.out 0
        have x6a := fun o => keep_alloc (o := o) x6
        have k5a := fun o => keep_alloc (o := o) k5
        cases hw : wi tick a.f6 1000000 with
        | false =>
          have hE : EndS l id tick = ([], 1) := by rw [HE3.out, if_pos (by rw [hw]; rfl)]
          have HE4 := Aside0.mk hE
          have HW := Aside0.mk (wi_t tick a.f6 1000000)
          rw [hw] at HW
          clear hE HE3 hw
          have HQ : ∀ W : World, Calls Try.prog 48 #[.int .i64 tick, .int .i64 a.f6, .int .i64 1000000] W fun e w' => e = .returned (.bool false) ∧ ∃ m, w' = W.drewN m := fun W => (trace_within.calls tick a.f6 1000000 _ W HW.out).mono fun e w' ⟨h1, h2⟩ => ⟨h1, h2.out⟩
          have HQ := Aside0.mk HQ
          go_quiet ((go_at_call 48; exact Calls.quiet_of (HQ.out _)))
          go_wp2
          go_ret2
          exact ⟨_, by rw [HE4.out]; rfl, by rw [HE4.out]; exact Kd.N_nil _ _ _ _ _, pw_below_drewN HB2.out _⟩
        | true =>
          have HW := Aside0.mk (wi_t tick a.f6 1000000)
          rw [hw] at HW
          have hE := HE3.out
          rw [hw, Bool.not_true, Bool.false_or] at hE
          have HE4 := Aside0.mk hE
          clear hE HE3 hw
          have k4 := blk_cell K4.out 0
          have HC : ∀ W : World, Below w2.heap.size w2 W → Calls Try.prog 49 #[.slice (some ad) l.length c, .func (.func 50) #[] #[.pointer (some ⟨w.heap.size + 1, 0, none⟩), .pointer (some ⟨w.heap.size, 0, none⟩)]] W fun e w4 => e = .returned (.bool (usedS l id tick)) ∧ Below W.heap.size W w4 := by
            intro W hW
            have hWw := below_step HB2.out hW
            refine con25_calls 50 _ (fun a => decide (tick ≤ a.f6) && decide (id ∈ a.f3)) (some ad) l c W (Kd.C_below HR.out hWw) (by omega) (fun _ _ => rfl) ?_
            intro x A3 c3 w' hx h3 hi hb
            exact end1_calls x A3 c3 id tick _ _ w' h3 (HOF.out x hx) hi (keep_cell hb (keep_cell hW k5)) (keep_cell hb (keep_cell hW k4))
          have HC := Aside0.mk HC
          clear k4
          go_region_with (first | (go_at_call 48; refine (trace_within.calls tick a.f6 1000000 _ _ HW.out).mono ?_; rintro e w3 ⟨rfl, hb3⟩; replace hb3 := hb3.below) | (go_at_call 49; refine (HC.out _ ?hA).mono ?_; (case hA => exact below_step (by (repeat (first | with_reducible exact Below.refl _ _ | with_reducible refine below_drew ?_ | with_reducible refine pw_below_drewN ?_ _))) hb3); rintro e w4 ⟨rfl, hb4⟩))
          all_goals
            have HB4 : Aside0 (Below w.heap.size w w4) := ⟨below_step (below_step (by (repeat (first | with_reducible exact HB2.out | with_reducible refine below_drew ?_ | with_reducible refine pw_below_drewN ?_ _))) hb3) hb4⟩
            have K5' : Aside0 (w4.heap[w.heap.size + 1]? = some (.cells #[.int .i64 tick] 3 (0, 0))) := ⟨blk_below (blk_below (by (repeat (first | with_reducible exact K5.out | with_reducible refine blk_drew ?_ | with_reducible refine blk_drewN ?_ _))) hb3) hb4⟩
            clear hb3 hb4 k5 k5a x6 x6a x7 K4 K5 HB2 HC HW
            cases hu : usedS l id tick with
            | true =>
              have hE := HE4.out
              rw [if_pos hu] at hE
              have HE5 := Aside0.mk hE
              clear hE hu HE4
              go_wp2
              go_ret2
              exact ⟨_, by rw [HE5.out]; rfl, by rw [HE5.out]; exact Kd.N_nil _ _ _ _ _, HB4.out⟩
            | false =>
              have hE := HE4.out
              rw [if_neg (by rw [hu]; simp)] at hE
              have HE5 := Aside0.mk hE
              clear hE hu HE4
              go_wp2_with fail
              have hcl : api_Artifact_46.f l = some l := by
                unfold api_Artifact_46.f; rw [Option.bind_some, if_pos (by simp; omega)]; rfl
              refine (api_Artifact_46.calls P0_ (some ad) c l l w4 (Kd.V_below HS.out HB4.out) hcl).mono ?_
              rintro e w5 ⟨vo, rfl, hN, hb5⟩
              have hN2 := Aside0.mk hN
              clear hcl hN
              obtain ⟨g, cap, rfl, hg1, hg2, _⟩ := Kd.N_form hN2.out (by omega)
              obtain ⟨hN3, hgr, hc7, hf7⟩ := N_gone hN2.out j hj tick
              have HN3 := Aside0.mk hN3
              have HGR := Aside0.mk hgr
              have k5 := blk_cell (blk_below K5'.out hb5) 0
              have HB5 := Aside0.mk (below_step HB4.out hb5)
              have hgw : w.heap.size ≤ g := Nat.le_trans HB4.out.size hg1
              clear hb5 hN3 hgr
              go_wp2
              go_ret2
              refine ⟨_, by rw [HE5.out]; rfl, ?_, ?_⟩
              · rw [HE5.out]
                simp only [Int.toNat_natCast]
                rw [HJ.out]
                exact Kd.N_mono (Kd.N_lower HN3.out HB4.out.size) (fun k hk => hk.imp (fun h => h) (fun h => Nat.le_trans HB4.out.size h))
              · exact HB5.out.setCell (p := ⟨g, j * 10 + 7, none⟩) hgw _
      · have hE := HE2.out
        rw [if_pos h7] at hE
        have HE3 := Aside0.mk hE
        have g7 : ((rd_T25 l j).f7 != 1000001) = true := by simpa using h7
        generalize rd_T25 l j = a at *
        clear hE HE2 h7 x6
        go_wp2
        go_ret2
        exact ⟨_, by rw [HE3.out]; rfl, by rw [HE3.out]; exact Kd.N_nil _ _ _ _ _, HB2.out⟩
  · have hE : EndS l id tick = ([], checkS l) := by unfold EndS; rw [if_pos h0]
    have HE := Aside0.mk hE
    have g0 : (checkS l != 0) = true := by simpa using h0
    clear hE h0
    generalize checkS l = q at *
    go_wp2
    go_ret2
    exact ⟨_, by rw [HE.out]; rfl, by rw [HE.out]; exact Kd.N_nil _ _ _ _ _, HB1.out⟩
end Go.Proofs.Ytlelhmephibfjaa.T

namespace Go.Proofs.Ytlelhmephibfjaa.T
open Go.RowKit Go.Proofs.YtlelhmephibfjaaW.PrintWords Go.Proofs.YtlelhmephibfjaaW.PrintLast Go.Proofs.YtlelhmephibfjaaW.PrintMore
attribute [local go_sem] max2_int min2_int max_two min_two max_three min_three max_four min_four   -- for this text's walks alone
set_option linter.unusedVariables false
set_option linter.unusedSimpArgs false

/-! ### trace_Check: function 21 -/
-- IMPORT Derived.Test.YtlelhmephibfjaaH3
def trace_Check.f (l0 : List S25) : Option Int := if l0.length ≤ 1000 ∧ (∀ x ∈ l0, x.f3.length ≤ 1000) then some (checkS l0) else none
theorem trace_Check.calls (A0 : Option Addr) (c0 : Nat) (l0 : List S25) (r : Int) (w : World) (hr0 : Kd.C k25 w A0 l0.length l0) (hc0 : l0.length ≤ c0) (h : trace_Check.f l0 = some r) :
    Calls Try.prog 21 #[.slice A0 l0.length c0] w fun e w' => e = .returned (.int .i64 r) ∧ Below w.heap.size w w' := by
  unfold trace_Check.f at h
  by_cases c : l0.length ≤ 1000 ∧ (∀ x ∈ l0, x.f3.length ≤ 1000)
  · rw [if_pos c] at h
    injection h with h
    subst h
    exact check_calls A0 l0 c0 w hr0 hc0 c.1 c.2
  · rw [if_neg c] at h; cases h

end Go.Proofs.Ytlelhmephibfjaa.T

namespace Go.Proofs.Ytlelhmephibfjaa.T
open Go.RowKit Go.Proofs.YtlelhmephibfjaaW.PrintWords Go.Proofs.YtlelhmephibfjaaW.PrintLast Go.Proofs.YtlelhmephibfjaaW.PrintMore
attribute [local go_sem] max2_int min2_int max_two min_two max_three min_three max_four min_four   -- for this text's walks alone
set_option linter.unusedVariables false
set_option linter.unusedSimpArgs false

/-! ### trace_asked: function 58 -/
def trace_asked.f (l0 : List (S25)) (a1 : Int) (a2 : Int) (a3 : Int) (a4 : Int) : Option (Int) := (trace_Check.f l0).bind fun t127 => (if t127 = 0 then ((trace_within.f a1 0 1048576).bind fun t128 => (if t128 = true then ((trace_within.f a2 a3 a4).bind fun t129 => (if t129 = true then (some 0) else (some 3))) else (some 3))) else (some t127))
set_option maxHeartbeats 8000000 in
set_option maxRecDepth 100000 in
theorem trace_asked.calls (A0 : Option Addr) (c0 : Nat) (l0 : List (S25)) (a1 : Int) (a2 : Int) (a3 : Int) (a4 : Int) (r : Int) (w : World) (hr0 : Kd.C k25 w A0 l0.length l0) (hc0 : l0.length ≤ c0) (h : trace_asked.f l0 a1 a2 a3 a4 = some r) :
    Calls Try.prog 58 #[.slice A0 l0.length c0, .int .i64 a1, .int .i64 a2, .int .i64 a3, .int .i64 a4] w fun e w' => e = .returned (.int .i64 r) ∧ Below w.heap.size w w' := by
  have HR0 := Aside0.mk hr0
  have HC0 := Aside0.mk hc0
  clear hr0 hc0
  have HB := Aside0.mk (Below.refl w.heap.size w)
  have H : ((trace_Check.f l0).bind fun t127 => (if t127 = 0 then ((trace_within.f a1 0 1048576).bind fun t128 => (if t128 = true then ((trace_within.f a2 a3 a4).bind fun t129 => (if t129 = true then (some 0) else (some 3))) else (some 3))) else (some t127))) = some r := h
  clear h
  replace H := Option.bind_eq_some_iff.mp H
  obtain ⟨t127, A60, H⟩ := H
  replace H : (if t127 = 0 then ((trace_within.f a1 0 1048576).bind fun t128 => (if t128 = true then ((trace_within.f a2 a3 a4).bind fun t129 => (if t129 = true then (some 0) else (some 3))) else (some 3))) else (some t127)) = some r := H
  have A6 := Aside0.mk A60
  clear A60
  by_cases c7 : t127 = 0
  · rw [if_pos c7] at H
    have c7b0 : (t127 == 0) = true := beq_iff_eq.mpr c7
    have c7b1 : (t127 != 0) = false := bne_eq_false_iff_eq.mpr c7
    clear c7
    replace H := Option.bind_eq_some_iff.mp H
    obtain ⟨t128, A80, H⟩ := H
    replace H : (if t128 = true then ((trace_within.f a2 a3 a4).bind fun t129 => (if t129 = true then (some 0) else (some 3))) else (some 3)) = some r := H
    have A8 := Aside0.mk A80
    clear A80
    by_cases c9 : t128 = true
    · subst c9
      have H1 : ((trace_within.f a2 a3 a4).bind fun t129 => (if t129 = true then (some 0) else (some 3))) = some r := by rw [if_pos rfl] at H; exact H
      clear H
      have H := H1
      clear H1
      replace H := Option.bind_eq_some_iff.mp H
      obtain ⟨t129, A100, H⟩ := H
      replace H : (if t129 = true then (some 0) else (some 3)) = some r := H
      have A10 := Aside0.mk A100
      clear A100
      by_cases c11 : t129 = true
      · subst c11
        have H1 : (some 0) = some r := by rw [if_pos rfl] at H; exact H
        clear H
        have H := H1
        clear H1
        obtain rfl := Option.some.inj H
        go_enter Try.func58, Try.ntmps58
        go_wp2_with (first | ((with_reducible refine gate_callee (f := 21) rfl ?_); refine goesL_ (some 13) rfl rfl Try.func21 (by kernel_rfl) rfl #[.slice A0 l0.length c0] rfl (by (try simp only [List.map_toArray, List.map_cons, List.map_nil]); first | done | rfl | (simp only [List.length_drop, List.length_take]; rfl)) ?_; (with_reducible refine (trace_Check.calls _ _ l0 t127 _ ?side1 ?side2 A6.out).mono ?_); (case side1 => repeat (first | exact HR0.out | (with_reducible refine Kd.C_alloc ?_ _) | (with_reducible refine Kd.C_drewN ?_ _) | (with_reducible refine Kd.C_drew ?_))); (case side2 => exact HC0.out); rintro e w12 ⟨rfl, hb⟩; refine ⟨_, rfl, ?_⟩; have n0_ := Aside0.mk (below_step (by repeat (first | (with_reducible first | exact HB.out | apply below_alloc | apply pw_below_drewN | apply below_drew1) | exact HB.out)) hb); clear HB; have HB := n0_; clear n0_; (try clear hb); (try clear hb2); (try clear hk); (try clear hi)) | ((with_reducible refine gate_callee (f := 48) rfl ?_); refine goesL_ (some 18) rfl rfl Try.func48 (by kernel_rfl) rfl #[.int .i64 a1, .int .i64 0, .int .i64 1048576] rfl (by (try simp only [List.map_toArray, List.map_cons, List.map_nil]); first | done | rfl | (simp only [List.length_drop, List.length_take]; rfl)) ?_; (with_reducible refine (trace_within.calls a1 0 1048576 true _ A8.out).mono ?_); rintro e w' ⟨rfl, ⟨nd, rfl⟩⟩; refine ⟨_, rfl, ?_⟩) | (go_at_call 48; (with_reducible refine (trace_within.calls a2 a3 a4 true _ A10.out).mono ?_); rintro e w' ⟨rfl, ⟨nd, rfl⟩⟩))
        go_ret
        exact ⟨by first | rfl | (simp [errW_none, errW_some] <;> rfl) | (simp [*, errW_none, errW_some] <;> rfl), by repeat (first | (with_reducible first | exact HB.out | apply below_alloc | apply pw_below_drewN | apply below_drew1) | exact HB.out)⟩
      · replace c11 := Bool.eq_false_iff.mpr c11
        subst c11
        have H1 : (some 3) = some r := by rw [if_neg (show ¬ (false = true) by decide)] at H; exact H
        clear H
        have H := H1
        clear H1
        obtain rfl := Option.some.inj H
        go_enter Try.func58, Try.ntmps58
        go_wp2_with (first | ((with_reducible refine gate_callee (f := 21) rfl ?_); refine goesL_ (some 13) rfl rfl Try.func21 (by kernel_rfl) rfl #[.slice A0 l0.length c0] rfl (by (try simp only [List.map_toArray, List.map_cons, List.map_nil]); first | done | rfl | (simp only [List.length_drop, List.length_take]; rfl)) ?_; (with_reducible refine (trace_Check.calls _ _ l0 t127 _ ?side1 ?side2 A6.out).mono ?_); (case side1 => repeat (first | exact HR0.out | (with_reducible refine Kd.C_alloc ?_ _) | (with_reducible refine Kd.C_drewN ?_ _) | (with_reducible refine Kd.C_drew ?_))); (case side2 => exact HC0.out); rintro e w13 ⟨rfl, hb⟩; refine ⟨_, rfl, ?_⟩; have n0_ := Aside0.mk (below_step (by repeat (first | (with_reducible first | exact HB.out | apply below_alloc | apply pw_below_drewN | apply below_drew1) | exact HB.out)) hb); clear HB; have HB := n0_; clear n0_; (try clear hb); (try clear hb2); (try clear hk); (try clear hi)) | ((with_reducible refine gate_callee (f := 48) rfl ?_); refine goesL_ (some 18) rfl rfl Try.func48 (by kernel_rfl) rfl #[.int .i64 a1, .int .i64 0, .int .i64 1048576] rfl (by (try simp only [List.map_toArray, List.map_cons, List.map_nil]); first | done | rfl | (simp only [List.length_drop, List.length_take]; rfl)) ?_; (with_reducible refine (trace_within.calls a1 0 1048576 true _ A8.out).mono ?_); rintro e w' ⟨rfl, ⟨nd, rfl⟩⟩; refine ⟨_, rfl, ?_⟩) | (go_at_call 48; (with_reducible refine (trace_within.calls a2 a3 a4 false _ A10.out).mono ?_); rintro e w' ⟨rfl, ⟨nd, rfl⟩⟩))
        go_ret
        exact ⟨by first | rfl | (simp [errW_none, errW_some] <;> rfl) | (simp [*, errW_none, errW_some] <;> rfl), by repeat (first | (with_reducible first | exact HB.out | apply below_alloc | apply pw_below_drewN | apply below_drew1) | exact HB.out)⟩
    · replace c9 := Bool.eq_false_iff.mpr c9
      subst c9
      have H1 : (some 3) = some r := by rw [if_neg (show ¬ (false = true) by decide)] at H; exact H
      clear H
      have H := H1
      clear H1
      obtain rfl := Option.some.inj H
      go_enter Try.func58, Try.ntmps58
      go_wp2_with (first | ((with_reducible refine gate_callee (f := 21) rfl ?_); refine goesL_ (some 13) rfl rfl Try.func21 (by kernel_rfl) rfl #[.slice A0 l0.length c0] rfl (by (try simp only [List.map_toArray, List.map_cons, List.map_nil]); first | done | rfl | (simp only [List.length_drop, List.length_take]; rfl)) ?_; (with_reducible refine (trace_Check.calls _ _ l0 t127 _ ?side1 ?side2 A6.out).mono ?_); (case side1 => repeat (first | exact HR0.out | (with_reducible refine Kd.C_alloc ?_ _) | (with_reducible refine Kd.C_drewN ?_ _) | (with_reducible refine Kd.C_drew ?_))); (case side2 => exact HC0.out); rintro e w14 ⟨rfl, hb⟩; refine ⟨_, rfl, ?_⟩; have n0_ := Aside0.mk (below_step (by repeat (first | (with_reducible first | exact HB.out | apply below_alloc | apply pw_below_drewN | apply below_drew1) | exact HB.out)) hb); clear HB; have HB := n0_; clear n0_; (try clear hb); (try clear hb2); (try clear hk); (try clear hi)) | ((with_reducible refine gate_callee (f := 48) rfl ?_); refine goesL_ (some 18) rfl rfl Try.func48 (by kernel_rfl) rfl #[.int .i64 a1, .int .i64 0, .int .i64 1048576] rfl (by (try simp only [List.map_toArray, List.map_cons, List.map_nil]); first | done | rfl | (simp only [List.length_drop, List.length_take]; rfl)) ?_; (with_reducible refine (trace_within.calls a1 0 1048576 false _ A8.out).mono ?_); rintro e w' ⟨rfl, ⟨nd, rfl⟩⟩; refine ⟨_, rfl, ?_⟩))
      go_ret
      exact ⟨by first | rfl | (simp [errW_none, errW_some] <;> rfl) | (simp [*, errW_none, errW_some] <;> rfl), by repeat (first | (with_reducible first | exact HB.out | apply below_alloc | apply pw_below_drewN | apply below_drew1) | exact HB.out)⟩
  · rw [if_neg c7] at H
    have c7b0 : (t127 == 0) = false := beq_eq_false_iff_ne.mpr c7
    have c7b1 : (t127 != 0) = true := bne_iff_ne.mpr c7
    obtain rfl := Option.some.inj H
    go_enter Try.func58, Try.ntmps58
    go_wp2_with (first | ((with_reducible refine gate_callee (f := 21) rfl ?_); refine goesL_ (some 13) rfl rfl Try.func21 (by kernel_rfl) rfl #[.slice A0 l0.length c0] rfl (by (try simp only [List.map_toArray, List.map_cons, List.map_nil]); first | done | rfl | (simp only [List.length_drop, List.length_take]; rfl)) ?_; (with_reducible refine (trace_Check.calls _ _ l0 t127 _ ?side1 ?side2 A6.out).mono ?_); (case side1 => repeat (first | exact HR0.out | (with_reducible refine Kd.C_alloc ?_ _) | (with_reducible refine Kd.C_drewN ?_ _) | (with_reducible refine Kd.C_drew ?_))); (case side2 => exact HC0.out); rintro e w15 ⟨rfl, hb⟩; refine ⟨_, rfl, ?_⟩; have n0_ := Aside0.mk (below_step (by repeat (first | (with_reducible first | exact HB.out | apply below_alloc | apply pw_below_drewN | apply below_drew1) | exact HB.out)) hb); clear HB; have HB := n0_; clear n0_; (try clear hb); (try clear hb2); (try clear hk); (try clear hi)))
    go_ret
    exact ⟨by first | rfl | (simp [errW_none, errW_some] <;> rfl) | (simp [*, errW_none, errW_some] <;> rfl), by repeat (first | (with_reducible first | exact HB.out | apply below_alloc | apply pw_below_drewN | apply below_drew1) | exact HB.out)⟩

-- NOT PRINTED: function 19 (trace_Purge)

end Go.Proofs.Ytlelhmephibfjaa.T

namespace Go.Proofs.Ytlelhmephibfjaa.T
set_option linter.unusedVariables false
set_option linter.unusedSimpArgs false
open Go.RowKit Go.Proofs.YtlelhmephibfjaaW.PrintWords Go.Proofs.YtlelhmephibfjaaW.PrintLast Go.Proofs.YtlelhmephibfjaaW.PrintMore

def askedS (l : List S25) (o n lo hi : Int) : Int := if checkS l ≠ 0 then checkS l else if (wi o 0 1048576 && wi n lo hi) = true then 0 else 3
theorem asked_t (l : List S25) (o n lo hi : Int) (hl : l.length ≤ 1000) (hof : ∀ x ∈ l, x.f3.length ≤ 1000) : trace_asked.f l o n lo hi = some (askedS l o n lo hi) := by
  unfold trace_asked.f askedS trace_Check.f
  rw [if_pos ⟨hl, hof⟩, Option.bind_some]
  by_cases h : checkS l = 0
  · rw [if_pos h, if_neg (by simpa using h), wi_t, Option.bind_some, wi_t]
    cases wi o 0 1048576 <;> cases wi n lo hi <;> rfl
  · rw [if_neg h, if_pos h]

def toPurge (o : Int) (a : S25) : Bool := decide (a.f2 = o) && decide (a.f1 ≠ 4)
def purge1 (o tick : Int) (a : S25) : S25 := if (toPurge o a && thereS a tick) = true then setGone a tick else a
def badP (o tick : Int) (a : S25) : Bool := toPurge o a && decide (tick < a.f6)
def PurgeS (l : List S25) (o tick : Int) : List S25 × Int :=
  if askedS l o tick 0 1000000 ≠ 0 then ([], askedS l o tick 0 1000000) else if l.any (badP o tick) = true then ([], 4)
  else if checkS (l.map (purge1 o tick)) ≠ 0 then ([], 4) else (l.map (purge1 o tick), 0)
def outP (l : List S25) (o tick : Int) (i : Nat) : List S25 := (l.take i).map (purge1 o tick) ++ l.drop i
theorem outP_len (l : List S25) (o tick : Int) (i : Nat) : (outP l o tick i).length = l.length := by
  unfold outP; rw [List.length_append, List.length_map, List.length_take, List.length_drop]; omega
theorem outP_all (l : List S25) (o tick : Int) : outP l o tick l.length = l.map (purge1 o tick) := by
  unfold outP; rw [List.take_length, List.drop_length, List.append_nil]
theorem outP_get (l : List S25) (o tick : Int) (i : Nat) (h : i < l.length) : (outP l o tick i)[i]'(by rw [outP_len]; exact h) = l[i] := by
  unfold outP
  rw [List.getElem_append_right (by rw [List.length_map, List.length_take]; omega)]
  simp only [List.length_map, List.length_take, List.getElem_drop]
  congr 1
  omega
theorem outP_set (l : List S25) (o tick : Int) (i : Nat) (h : i < l.length) : outP l o tick (i + 1) = (outP l o tick i).set i (purge1 o tick l[i]) := by
  unfold outP
  have e : (List.map (purge1 o tick) (l.take i)).length = i := by rw [List.length_map, List.length_take]; omega
  rw [List.set_append_right _ _ (by rw [e]; exact Nat.le_refl _), e, Nat.sub_self, List.take_succ_eq_append_getElem h, List.map_append, List.append_assoc, List.drop_eq_getElem_cons h]
  rfl
theorem outP_same (l : List S25) (o tick : Int) (i : Nat) (h : i < l.length) (hp : purge1 o tick l[i] = l[i]) : outP l o tick (i + 1) = outP l o tick i := by
  rw [outP_set l o tick i h, hp]
  have := outP_get l o tick i h
  conv => lhs; rw [← this]
  exact List.set_getElem_self _
theorem purge1_f3 (o tick : Int) (a : S25) : (purge1 o tick a).f3 = a.f3 := by unfold purge1; split <;> rfl

set_option maxHeartbeats 8000000 in
set_option maxRecDepth 100000 in
theorem purge_calls (P0_ : Nat → Prop) (A : Option Addr) (c : Nat) (l : List S25) (o tick : Int) (w : World) (hs : Kd.V k25 25 w w.heap.size P0_ (.slice A l.length c) l) (hl : l.length ≤ 1000) (hof : ∀ x ∈ l, x.f3.length ≤ 1000) :
    Calls Try.prog 19 #[.slice A l.length c, .int .i64 o, .int .i64 tick] w fun e w' => ∃ v0_ : Value, e = .returned (.tuple #[v0_, .int .i64 (PurgeS l o tick).2]) ∧ Kd.N k25 25 w' w.heap.size (fun k_ => P0_ k_ ∨ w.heap.size ≤ k_) v0_ (PurgeS l o tick).1 ∧ Below w.heap.size w w' := by
  have hu25 := Try.underlying25
  obtain ⟨_, hc, hr⟩ := Kd.V_reads' hs
  have HS := Aside0.mk hs
  have HR := Aside0.mk hr
  have HOF := Aside0.mk hof
  have HASK := Aside0.mk (asked_t l o tick 0 1000000 hl hof)
  clear hs hr hof
  go_enter Try.func19, Try.ntmps19
  go_wp2_with fail
  refine (trace_asked.calls A c l o tick 0 1000000 _ _ HR.out hc HASK.out).mono ?_
  rintro e w1 ⟨rfl, hb⟩
  have HB1 := Aside0.mk hb
  clear hb HASK
  by_cases h0 : askedS l o tick 0 1000000 = 0
  · have HP := Aside0.mk (show PurgeS l o tick = if l.any (badP o tick) = true then ([], 4) else if checkS (l.map (purge1 o tick)) ≠ 0 then ([], 4) else (l.map (purge1 o tick), 0) by unfold PurgeS; rw [if_neg (by simpa using h0)])
    rw [h0]
    clear h0
    go_wp2_with fail
    have hcl : api_Artifact_46.f l = some l := by
      unfold api_Artifact_46.f; rw [Option.bind_some, if_pos (by simp; omega)]; rfl
    refine (api_Artifact_46.calls P0_ A c l l w1 (Kd.V_below HS.out HB1.out) hcl).mono ?_
    rintro e w2 ⟨vo, rfl, hN, hb⟩
    obtain ⟨Ao, co, rfl⟩ := Kd.N_slice hN
    have HN := Aside0.mk (show Kd.N k25 25 w2 w1.heap.size (fun k_ => P0_ k_ ∨ w1.heap.size ≤ k_) (.slice Ao l.length co) (outP l o tick 0) from hN)
    have HB2 := Aside0.mk (below_step HB1.out hb)
    have hw1 : w.heap.size ≤ w1.heap.size := HB1.out.size
    clear hN hb hcl
    go_wp2
    go_loopw [23] (fun v wr => ∃ i : Nat, v = .int .i64 i ∧ i ≤ l.length ∧ Aside0 (∀ x ∈ l.take i, badP o tick x = false) ∧ Aside0 (Kd.N k25 25 wr w1.heap.size (fun k_ => P0_ k_ ∨ w1.heap.size ≤ k_) (.slice Ao l.length co) (outP l o tick i)) ∧ Aside0 (Below w.heap.size w wr)) (fun v _ => l.length - (intOf v).toNat)
    case atStart => exact ⟨0, rfl, by omega, ⟨by simp⟩, HN, HB2⟩
    case round =>
      clear HN HB2
      obtain ⟨i, rfl, hi, HNB, HN, HB⟩ := hrel
      by_cases hil : i < l.length
      · obtain ⟨ad, A3, c3, e1, x0, x1, x2, x3, x4, x5, x6, x7, x8, x9, hl3, hi3⟩ := at_T25 (Kd.C_below HR.out HB.out) (i : Int) (by omega) (by omega)
        subst e1
        rw [rd25_get l i hil] at x0 x1 x2 x3 x4 x5 x6 x7 x8 x9 hl3 hi3
        rw [Int.toNat_natCast] at x0 x1 x2 x3 x4 x5 x6 x7 x8 x9
        have HL3 := Aside0.mk hl3
        have HI3 := Aside0.mk hi3
        have HT := Aside0.mk (show l.take (i + 1) = l.take i ++ [l[i]] by rw [List.take_succ_eq_append_getElem hil])
        have HMEM := Aside0.mk (List.getElem_mem hil)
        have HSAME := Aside0.mk (outP_same l o tick i hil)
        have HSET := Aside0.mk (outP_set l o tick i hil)
        have HGET := Aside0.mk (outP_get l o tick i hil)
        clear hl3 hi3
        generalize l[i] = a at *
        have HBX := Aside0.mk (blk_new wr (.cells #[.int .i64 a.f0, .int .i64 a.f1, .int .i64 a.f2, .slice A3 a.f3.length c3, .int .i64 a.f4, .int .i64 a.f5, .int .i64 a.f6, .int .i64 a.f7, .int .i64 a.f8, .int .i64 a.f9] 25))
        have HBA := Aside0.mk (below_alloc HB.out (.cells #[.int .i64 a.f0, .int .i64 a.f1, .int .i64 a.f2, .slice A3 a.f3.length c3, .int .i64 a.f4, .int .i64 a.f5, .int .i64 a.f6, .int .i64 a.f7, .int .i64 a.f8, .int .i64 a.f9] 25))
        have HNA := Aside0.mk (Kd.N_alloc HN.out (.cells #[.int .i64 a.f0, .int .i64 a.f1, .int .i64 a.f2, .slice A3 a.f3.length c3, .int .i64 a.f4, .int .i64 a.f5, .int .i64 a.f6, .int .i64 a.f7, .int .i64 a.f8, .int .i64 a.f9] 25))
        have HIA := Aside0.mk (Kd.C_alloc HI3.out (.cells #[.int .i64 a.f0, .int .i64 a.f1, .int .i64 a.f2, .slice A3 a.f3.length c3, .int .i64 a.f4, .int .i64 a.f5, .int .i64 a.f6, .int .i64 a.f7, .int .i64 a.f8, .int .i64 a.f9] 25))
        by_cases h2 : a.f2 = o
        · have g2 : (a.f2 != o) = false := by simpa using h2
          by_cases h4 : a.f1 = 4
          · have g4 : (a.f1 == 4) = true := by simpa using h4
            have HTP := Aside0.mk (show toPurge o a = false by unfold toPurge; rw [h4]; simp)
            have HP1 := Aside0.mk (show purge1 o tick a = a by unfold purge1; rw [HTP.out]; simp)
            have HNB2 := Aside0.mk (show ∀ x ∈ l.take (i + 1), badP o tick x = false by
              rw [HT.out]
              intro x hx
              rcases List.mem_append.1 hx with hx | hx
              · exact HNB.out x hx
              · rw [List.mem_singleton.1 hx]; unfold badP; rw [HTP.out]; rfl)
            clear h2 h4
            go_wp2
            go_roundw
            case rel => exact ⟨i + 1, by go_num, by omega, HNB2, by rw [HSAME.out HP1.out]; exact HNA, HBA⟩
            case measure => simp [intOf]; omega
          · have g4 : (a.f1 == 4) = false := by simpa using h4
            have HTP := Aside0.mk (show toPurge o a = true by unfold toPurge; simp [h2, h4])
            by_cases h6 : tick < a.f6
            · have HANY := Aside0.mk (show l.any (badP o tick) = true from List.any_eq_true.2 ⟨a, HMEM.out, by unfold badP; rw [HTP.out]; simpa using h6⟩)
              have HP2 := Aside0.mk (show PurgeS l o tick = ([], 4) by rw [HP.out, if_pos HANY.out])
              have g6 : decide (tick < a.f6) = true := decide_eq_true h6
              clear h2 h4 h6
              go_wp2
              go_ret2
              exact ⟨_, by rw [HP2.out]; rfl, by rw [HP2.out]; exact Kd.N_nil _ _ _ _ _, HBA.out⟩
            · have g6 : decide (tick < a.f6) = false := decide_eq_false h6
              have HNB2 := Aside0.mk (show ∀ x ∈ l.take (i + 1), badP o tick x = false by
                rw [HT.out]
                intro x hx
                rcases List.mem_append.1 hx with hx | hx
                · exact HNB.out x hx
                · rw [List.mem_singleton.1 hx]; unfold badP; rw [g6]; simp)
              have HTH := Aside0.mk (there_t a tick)
              clear h2 h4 h6
              go_wp2_with fail
              refine (trace_there.calls _ _ _ _ c3 a.f3 _ _ _ _ _ _ tick _ _ HIA.out HL3.out HTH.out).mono ?_
              rintro e w3 ⟨rfl, hb⟩
              have HB3 := Aside0.mk (below_step HBA.out hb)
              have HN3 := Aside0.mk (Kd.N_below HNA.out hb)
              clear hb HTH x0 x1 x2 x3 x4 x5 x6 x7 x8 x9
              cases hth : thereS a tick with
              | false =>
                have HP1 := Aside0.mk (show purge1 o tick a = a by unfold purge1; rw [hth]; simp)
                clear hth
                go_wp2
                go_roundw
                case rel => exact ⟨i + 1, by go_num, by omega, HNB2, by rw [HSAME.out HP1.out]; exact HN3, HB3⟩
                case measure => simp [intOf]; omega
              | true =>
                have HP1 := Aside0.mk (show purge1 o tick a = setGone a tick by unfold purge1; rw [hth, HTP.out]; rfl)
                obtain ⟨g, cap, e5, hg1, hg2, _⟩ := Kd.N_form HN3.out (by rw [outP_len]; omega)
                rw [outP_len] at e5
                injection e5 with e6 _ e7
                subst e6 e7
                obtain ⟨hN4, hgr, hc7, hf7⟩ := N_gone HN3.out i (by rw [outP_len]; exact hil) tick
                rw [HGET.out, ← HP1.out, ← HSET.out] at hN4
                have HN4 := Aside0.mk hN4
                have HB4 := Aside0.mk (HB3.out.setCell (p := ⟨g, i * 10 + 7, none⟩) (Nat.le_trans hw1 hg1) (.int .i64 tick))
                clear hth hN4 hgr
                go_wp2
                go_roundw
                case rel => exact ⟨i + 1, by go_num, by omega, HNB2, HN4, HB4⟩
                case measure => simp [intOf]; omega
        · have g2 : (a.f2 != o) = true := by simpa using h2
          have HTP := Aside0.mk (show toPurge o a = false by unfold toPurge; simp [h2])
          have HP1 := Aside0.mk (show purge1 o tick a = a by unfold purge1; rw [HTP.out]; simp)
          have HNB2 := Aside0.mk (show ∀ x ∈ l.take (i + 1), badP o tick x = false by
            rw [HT.out]
            intro x hx
            rcases List.mem_append.1 hx with hx | hx
            · exact HNB.out x hx
            · rw [List.mem_singleton.1 hx]; unfold badP; rw [HTP.out]; rfl)
          clear h2
          go_wp2
          go_roundw
          case rel => exact ⟨i + 1, by go_num, by omega, HNB2, by rw [HSAME.out HP1.out]; exact HNA, HBA⟩
          case measure => simp [intOf]; omega
      · have hie : i = l.length := by omega
        subst hie
        have hn := HN.out
        rw [outP_all] at hn
        have hnb := HNB.out
        rw [List.take_length] at hnb
        have HP2 := Aside0.mk (show PurgeS l o tick = if checkS (l.map (purge1 o tick)) ≠ 0 then ([], 4) else (l.map (purge1 o tick), 0) by
          rw [HP.out, if_neg (by
            intro h
            obtain ⟨x, hx, hx2⟩ := List.any_eq_true.1 h
            rw [hnb x hx] at hx2; cases hx2)])
        have HN2 := Aside0.mk hn
        obtain ⟨h5, h6, h7⟩ := Kd.N_reads' hn
        have hlm : (l.map (purge1 o tick)).length = l.length := by rw [List.length_map]
        have HC := Aside0.mk h7
        have HOF2 := Aside0.mk (show ∀ x ∈ l.map (purge1 o tick), x.f3.length ≤ 1000 by
          intro x hx
          obtain ⟨y, hy, rfl⟩ := List.mem_map.1 hx
          rw [purge1_f3]; exact HOF.out y hy)
        clear hn hnb h5 h7 HN HNB HP
        generalize l.map (purge1 o tick) = m at *
        go_wp2_with fail
        have hch := check_calls Ao m co wr HC.out (by omega) (by omega) HOF2.out
        rw [hlm] at hch
        refine hch.mono ?_
        rintro e w3 ⟨rfl, hb⟩
        have HB3 := Aside0.mk (below_step HB.out hb)
        have HN3 := Aside0.mk (Kd.N_below HN2.out hb)
        clear hb hch HB HN2
        by_cases hk : checkS m = 0
        · have HP3 := Aside0.mk (show PurgeS l o tick = (m, 0) by rw [HP2.out, if_neg (by simpa using hk)])
          rw [hk]
          clear hk
          go_wp2
          go_ret2
          exact ⟨_, by rw [HP3.out]; rfl, by rw [HP3.out]; exact Kd.N_mono (Kd.N_lower HN3.out hw1) (fun k hk => hk.imp (fun h => h) (fun h => Nat.le_trans hw1 h)), HB3.out⟩
        · have HP3 := Aside0.mk (show PurgeS l o tick = ([], 4) by rw [HP2.out, if_pos hk])
          have g0 : (checkS m != 0) = true := by simpa using hk
          generalize checkS m = q at *
          clear hk
          go_wp2
          go_ret2
          exact ⟨_, by rw [HP3.out]; rfl, by rw [HP3.out]; exact Kd.N_nil _ _ _ _ _, HB3.out⟩
  · have HP := Aside0.mk (show PurgeS l o tick = ([], askedS l o tick 0 1000000) by unfold PurgeS; rw [if_pos h0])
    have g0 : (askedS l o tick 0 1000000 != 0) = true := by simpa using h0
    generalize askedS l o tick 0 1000000 = q at *
    clear h0
    go_wp2
    go_ret2
    exact ⟨_, by rw [HP.out]; rfl, by rw [HP.out]; exact Kd.N_nil _ _ _ _ _, HB1.out⟩
end Go.Proofs.Ytlelhmephibfjaa.T

namespace Go.Proofs.Ytlelhmephibfjaa.T
set_option linter.unusedVariables false
set_option linter.unusedSimpArgs false
open Go.RowKit Go.Shelf Go.Proofs.YtlelhmephibfjaaW.PrintWords Go.Proofs.YtlelhmephibfjaaW.PrintLast Go.Proofs.YtlelhmephibfjaaW.PrintMore
attribute [local go_sem] Oper.semAt_some

set_option maxHeartbeats 8000000 in
set_option maxRecDepth 100000 in
theorem of_calls (A : Option Addr) (n c : Nat) (o : Int) (w : World) :
    Calls Try.prog 67 #[.slice A n c, .int .i64 o] w fun e w' => e = .returned (.func (.func 89) #[] #[.pointer (some ⟨w.heap.size, 0, none⟩), .pointer (some ⟨w.heap.size + 1, 0, none⟩)]) ∧ w' = (w.alloc (.cells #[.slice A n c] 22)).alloc (.cells #[.int .i64 o] 3) := by
  go_enter Try.func67, Try.ntmps67
  go_wp2
  go_ret
  exact ⟨rfl, rfl⟩

/-- an artifact of the ledger with the row of its parents, as it is handed to a round -/
abbrev Item (w0 : World) (ls : List S25) := { p : S25 × Option Addr × Nat // p.1 ∈ ls ∧ p.1.f3.length ≤ p.2.2 ∧ Kd.C (Kd.int .i64) w0 p.2.1 p.1.f3.length p.1.f3 }
def Item.val {w0 : World} {ls : List S25} (x : Item w0 ls) : S25 := x.1.1
def encItem {w0 : World} {ls : List S25} (x : Item w0 ls) : Array Value := #[V25 x.1.1 x.1.2.1 x.1.2.2]
def ofS (o : Int) (ls : List S25) : List S25 := ls.filter (fun a => decide (a.f2 = o))
/-- what a round keeps -/
def KpO (n₀ bo : Nat) (W W' : World) : Prop := Below n₀ W W' ∧ ∀ o, W.heap[bo]? = some o → W'.heap[bo]? = some o
theorem KpO.t {n₀ bo : Nat} {X Y Z : World} (h : KpO n₀ bo X Y) (k : KpO n₀ bo Y Z) : KpO n₀ bo X Z := ⟨h.1.trans k.1, fun o ho => k.2 o (h.2 o ho)⟩
theorem KpO.b {n₀ bo : Nat} {w : World} (hn : n₀ ≤ w.heap.size) (hbo : bo < w.heap.size) (W : World) (l : Nat) (o o' : Obj) (hl : w.heap.size ≤ l) (h : W.heap[l]? = some o) (h1 : o.isCells = false) (h2 : o.isWalk = false) : KpO n₀ bo W (W.putObj l o') :=
  ⟨belowK_b hn W l o o' hl h h1 h2, fun q hq => (World.putObj_heap_other (by omega)).trans hq⟩

theorem ofS_succ (o : Int) (ls : List S25) (k : Nat) (h : k < ls.length) : ofS o (ls.take (k + 1)) = ofS o (ls.take k) ++ (if ls[k].f2 = o then [ls[k]] else []) := by
  unfold ofS
  rw [List.take_succ_eq_append_getElem h, List.filter_append]
  congr 1
  by_cases e : ls[k].f2 = o <;> simp [e]

set_option maxRecDepth 100000 in
set_option maxHeartbeats 4000000 in
theorem of1_in (F : Fence) (n : Nat) (h89 : F.fn 89) (hro : F.round = none) (hn : 1 ≤ n) (l bl bo : Nat) (A : Option Addr) (c : Nat) (ls : List S25) (o : Int) (w0 : World) (hC : Kd.C k25 w0 A ls.length ls) (hlen : ls.length ≤ 1000)
    (J Jx : List (Item w0 ls) → World → Prop)
    (hY : ∀ pre x W, J pre W → pre.length < ls.length → YieldAt F (n - 1) Try.prog l (encItem x) W fun e W' =>
      (e = .returned (.bool true) ∧ J (pre ++ [x]) W' ∧ KpO w0.heap.size bo W W') ∨ (e = .returned (.bool false) ∧ Jx (pre ++ [x]) W'))
    (W : World) (hJ : AbidesFrom W.heap.size J) (hJx : AbidesFrom W.heap.size Jx) (hB0 : Below w0.heap.size w0 W) (hbl : W.cell? ⟨bl, 0, none⟩ = some (.slice A ls.length c)) (hbo : W.heap[bo]? = some (.cells #[.int .i64 o] 3 (0, 0))) (h0 : J [] W) :
    CallsIn F n Try.prog 89 #[.func (.yield l) #[] #[], .pointer (some ⟨bl, 0, none⟩), .pointer (some ⟨bo, 0, none⟩)] W fun e W' => (∃ v, e = .returned v) ∧
      ((∃ ys : List (Item w0 ls), ys.map Item.val = ofS o ls ∧ J ys W') ∨ (∃ pre : List (Item w0 ls), (∃ k, k ≤ ls.length ∧ pre.map Item.val = ofS o (ls.take k)) ∧ Jx pre W')) := by
  have hu25 := Try.underlying25
  have HC := Aside0.mk hC
  have HY := Aside0.mk hY
  have HB0 := Aside0.mk hB0
  have HJ := Aside0.mk hJ
  clear hC hY hB0 hJ hJx
  refine callsIn_of_wp Try.func89 rfl h89 ?_ hro
  simp only [Try.ntmps89, List.size_toArray, List.length_cons, List.length_nil, Nat.reduceAdd, Nat.reduceSub, Array.replicate_succ, Array.replicate_zero, List.push_toArray, List.append_toArray, List.nil_append, List.cons_append]
  gi_wp2
  gi_loopw [8] (fun v wr => ∃ (k : Nat) (pre : List (Item w0 ls)), v = .int .i64 k ∧ k ≤ ls.length ∧ Aside0 (pre.map Item.val = ofS o (ls.take k)) ∧ Aside0 (J pre wr) ∧ Aside0 (Below w0.heap.size w0 wr) ∧ Aside0 (wr.heap[bo]? = some (.cells #[.int .i64 o] 3 (0, 0))) ∧ Aside0 (W.heap.size ≤ wr.heap.size)) (fun v _ => ls.length - (intOf v).toNat)
  case atStart => exact ⟨0, [], rfl, Nat.zero_le _, ⟨rfl⟩, ⟨h0⟩, HB0, ⟨hbo⟩, ⟨Nat.le_refl _⟩⟩
  case round =>
    obtain ⟨k, pre, rfl, hk, HP, HJP, HB, HBO, HSZ⟩ := hrel
    by_cases hlt : k < ls.length
    · obtain ⟨ad, A3, c3, e1, x0, x1, x2, x3, x4, x5, x6, x7, x8, x9, hl3, hi3⟩ := at_T25 HC.out (k : Int) (by omega) (by omega)
      subst e1
      have hn0 := HB.out.size
      replace x0 := keep_cell HB.out x0
      replace x1 := keep_cell HB.out x1
      replace x2 := keep_cell HB.out x2
      replace x3 := keep_cell HB.out x3
      replace x4 := keep_cell HB.out x4
      replace x5 := keep_cell HB.out x5
      replace x6 := keep_cell HB.out x6
      replace x7 := keep_cell HB.out x7
      replace x8 := keep_cell HB.out x8
      replace x9 := keep_cell HB.out x9
      rw [rd25_get ls k hlt] at x0 x1 x2 x3 x4 x5 x6 x7 x8 x9 hl3 hi3
      rw [Int.toNat_natCast] at x0 x1 x2 x3 x4 x5 x6 x7 x8 x9
      have HMEM := Aside0.mk (List.getElem_mem hlt)
      have HSN := Aside0.mk (ofS_succ o ls k hlt)
      have hpl : pre.length ≤ k := by
        have h1 : pre.length = (pre.map Item.val).length := by simp
        rw [h1, HP.out]
        unfold ofS
        refine Nat.le_trans (List.length_filter_le _ _) ?_
        rw [List.length_take]; omega
      have HL3 := Aside0.mk hl3
      have HI3 := Aside0.mk hi3
      have kbo := fun q => blk_cell (blk_alloc HBO.out q) 0
      clear hl3 hi3
      generalize ls[k] = a at *
      have HJA := Aside0.mk (HJ.out pre wr (wr.alloc (.cells #[.int .i64 a.f0, .int .i64 a.f1, .int .i64 a.f2, .slice A3 a.f3.length c3, .int .i64 a.f4, .int .i64 a.f5, .int .i64 a.f6, .int .i64 a.f7, .int .i64 a.f8, .int .i64 a.f9] 25)) none HJP.out (World.grownBy_alloc wr _ none) (fun r e => by cases e))
      have HBA := Aside0.mk (HB.out.alloc hn0 (.cells #[.int .i64 a.f0, .int .i64 a.f1, .int .i64 a.f2, .slice A3 a.f3.length c3, .int .i64 a.f4, .int .i64 a.f5, .int .i64 a.f6, .int .i64 a.f7, .int .i64 a.f8, .int .i64 a.f9] 25))
      have HBOA := Aside0.mk (blk_alloc HBO.out (.cells #[.int .i64 a.f0, .int .i64 a.f1, .int .i64 a.f2, .slice A3 a.f3.length c3, .int .i64 a.f4, .int .i64 a.f5, .int .i64 a.f6, .int .i64 a.f7, .int .i64 a.f8, .int .i64 a.f9] 25))
      have HSZA : Aside0 (W.heap.size ≤ (wr.alloc (.cells #[.int .i64 a.f0, .int .i64 a.f1, .int .i64 a.f2, .slice A3 a.f3.length c3, .int .i64 a.f4, .int .i64 a.f5, .int .i64 a.f6, .int .i64 a.f7, .int .i64 a.f8, .int .i64 a.f9] 25)).heap.size) := ⟨by have := HSZ.out; simp; omega⟩
      by_cases h2 : a.f2 = o
      · have g2 : (a.f2 == o) = true := by simpa using h2
        rw [if_pos h2] at HSN
        clear h2
        obtain ⟨fn, tmps, assign, body, hy, hR⟩ := HY.out pre ⟨(a, A3, c3), HMEM.out, HL3.out, HI3.out⟩ (wr.alloc (.cells #[.int .i64 a.f0, .int .i64 a.f1, .int .i64 a.f2, .slice A3 a.f3.length c3, .int .i64 a.f4, .int .i64 a.f5, .int .i64 a.f6, .int .i64 a.f7, .int .i64 a.f8, .int .i64 a.f9] 25)) HJA.out (by omega)
        simp only [encItem, V25] at hy
        have HRR := Aside0.mk hR
        clear hR
        gi_wp2
        refine HRR.out.mono ?_
        rintro e W3 (⟨rfl, hJ3, hk3⟩ | ⟨rfl, hJx3⟩)
        · have N1 := Aside0.mk hJ3
          have N2 := Aside0.mk (HBA.out.trans hk3.1)
          have N3 := Aside0.mk (hk3.2 _ HBOA.out)
          have N4 : Aside0 (W.heap.size ≤ W3.heap.size) := ⟨Nat.le_trans HSZA.out hk3.1.size⟩
          clear hJ3 hk3 hy
          gi_wp2
          go_roundw
          case rel => exact ⟨k + 1, pre ++ [⟨(a, A3, c3), HMEM.out, HL3.out, HI3.out⟩], by go_num, by omega, ⟨by rw [List.map_append, HP.out, HSN.out]; rfl⟩, N1, N2, N3, N4⟩
          case measure => simp [intOf]; omega
        · have N1 := Aside0.mk hJx3
          clear hJx3 hy
          gi_wp2
          refine bodyPost_ret (results_none rfl _ _ _) rfl ?_
          exact ⟨⟨_, rfl⟩, .inr ⟨pre ++ [⟨(a, A3, c3), HMEM.out, HL3.out, HI3.out⟩], ⟨k + 1, by omega, by rw [List.map_append, HP.out, HSN.out]; rfl⟩, N1.out⟩⟩
      · have g2 : (a.f2 == o) = false := by simpa using h2
        rw [if_neg h2, List.append_nil] at HSN
        clear h2
        gi_wp2
        refine ⟨fun _ h => (by cases h), ?_⟩
        gi_wp2
        go_roundw
        case rel => exact ⟨k + 1, pre, by go_num, by omega, by rw [HSN.out]; exact HP, HJA, HBA, HBOA, HSZA⟩
        case measure => simp [intOf]; omega
    · have hke : k = ls.length := by omega
      subst hke
      have hp := HP.out
      rw [List.take_length] at hp
      have HP2 := Aside0.mk hp
      clear hp
      gi_wp2
      go_end0
      exact ⟨⟨_, rfl⟩, .inl ⟨pre, HP2.out, HJP.out⟩⟩

/-- **of(l, object) hands back a value that gives the artifacts of the object, in order.** -/
theorem of1_stops (F : Fence) (n : Nat) (h89 : F.fn 89) (hro : F.round = none) (hn : 1 ≤ n) (bl bo : Nat) (A : Option Addr) (c : Nat) (ls : List S25) (o : Int) (w0 w : World) (hC : Kd.C k25 w0 A ls.length ls) (hlen : ls.length ≤ 1000)
    (hB0 : Below w0.heap.size w0 w) (hbl : w.cell? ⟨bl, 0, none⟩ = some (.slice A ls.length c)) (hbo : w.heap[bo]? = some (.cells #[.int .i64 o] 3 (0, 0))) :
    SeqStopsK F n Try.prog 89 #[.pointer (some ⟨bl, 0, none⟩), .pointer (some ⟨bo, 0, none⟩)] (encItem (w0 := w0) (ls := ls)) (KpO w0.heap.size bo) (fun ys => ys.map Item.val = ofS o ls) (fun pre => ∃ k, k ≤ ls.length ∧ pre.map Item.val = ofS o (ls.take k)) ls.length w := fun l J Jx W hW hJ hJx hY h0 =>
  of1_in F n h89 hro hn l bl bo A c ls o w0 hC hlen J Jx hY W hJ hJx (hB0.trans (hW.mono hB0.size)) (keep_cell hW hbl) (blk_below hbo hW) h0
end Go.Proofs.Ytlelhmephibfjaa.T

namespace Go.Proofs.Ytlelhmephibfjaa.T
set_option linter.unusedVariables false
set_option linter.unusedSimpArgs false
open Go.RowKit Go.Proofs.YtlelhmephibfjaaW.PrintWords Go.Proofs.YtlelhmephibfjaaW.PrintLast Go.Proofs.YtlelhmephibfjaaW.PrintMore

/-- a way of one step or more -/
inductive Way (S : Nat → List Int) : Nat → Nat → Prop
  | one {i j : Nat} : (j : Int) ∈ S i → Way S i j
  | more {i j k : Nat} : (j : Int) ∈ S i → Way S j k → Way S i k
theorem Way.trans {S : Nat → List Int} {i j k : Nat} (h : Way S i j) (h' : Way S j k) : Way S i k := by
  induction h with
  | one h => exact .more h h'
  | more h _ ih => exact .more h (ih h')

def setAt (R : List Bool) (i : Nat) : Bool := R.getD i false
structure Fol (S : Nat → List Int) (k : Nat) (done : List Int) (R R' : List Bool) : Prop where
  len : R'.length = R.length
  old : ∀ i, setAt R i = true → setAt R' i = true
  step : ∀ i : Nat, (i : Int) ∈ done → setAt R' i = true
  new : ∀ i, setAt R' i = true → setAt R i = false → Way S k i ∧ ∀ j : Nat, (j : Int) ∈ S i → setAt R' j = true
theorem Fol.start (S : Nat → List Int) (k : Nat) (R : List Bool) : Fol S k [] R R := ⟨rfl, fun _ h => h, fun _ h => (by cases h), fun i h h' => (by rw [h] at h'; cases h')⟩
theorem Fol.skip {S : Nat → List Int} {k : Nat} {done : List Int} {R R' : List Bool} (h : Fol S k done R R') (m : Nat) (hm : setAt R' m = true) : Fol S k (done ++ [(m : Int)]) R R' :=
  ⟨h.len, h.old, (fun i hi => by
    rcases List.mem_append.1 hi with hi | hi
    · exact h.step i hi
    · have : i = m := by have := List.mem_singleton.1 hi; omega
      subst this; exact hm), h.new⟩
theorem setAt_set (R : List Bool) (m i : Nat) (hm : m < R.length) : setAt (R.set m true) i = if i = m then true else setAt R i := by
  unfold setAt
  rw [List.getD_eq_getElem?_getD, List.getElem?_set, List.getD_eq_getElem?_getD]
  by_cases e : m = i
  · subst e; simp [hm]
  · rw [if_neg e, if_neg (fun h => e h.symm)]
theorem Fol.into {S : Nat → List Int} {k : Nat} {done : List Int} {R R' R'' : List Bool} (h : Fol S k done R R') (m : Nat) (hm : m < R'.length) (hk : (m : Int) ∈ S k) (h2 : Fol S m (S m) (R'.set m true) R'') : Fol S k (done ++ [(m : Int)]) R R'' := by
  have up : ∀ i, setAt R' i = true → setAt R'' i = true := fun i hi => h2.old i (by rw [setAt_set _ _ _ hm]; split <;> simp_all)
  have hmm : setAt R'' m = true := h2.old m (by rw [setAt_set _ _ _ hm, if_pos rfl])
  refine ⟨by rw [h2.len, List.length_set, h.len], fun i hi => up i (h.old i hi), fun i hi => ?_, fun i hi hn => ?_⟩
  · rcases List.mem_append.1 hi with hi | hi
    · exact up i (h.step i hi)
    · have : i = m := by have := List.mem_singleton.1 hi; omega
      subst this; exact hmm
  · by_cases e : i = m
    · subst e
      exact ⟨.one hk, fun j hj => h2.step j hj⟩
    · by_cases e2 : setAt R' i = true
      · obtain ⟨a, b⟩ := h.new i e2 hn
        exact ⟨a, fun j hj => up j (b j hj)⟩
      · obtain ⟨a, b⟩ := h2.new i hi (by rw [setAt_set _ _ _ hm, if_neg e]; simpa using e2)
        exact ⟨.more hk a, b⟩
theorem count_set (R : List Bool) (m : Nat) (hm : m < R.length) (h : setAt R m = false) : (R.set m true).count false < R.count false := by
  induction R generalizing m with
  | nil => simp at hm
  | cons x R ih =>
    cases m with
    | zero =>
      have : x = false := h
      subst this
      simp
    | succ m =>
      have := ih m (by simpa using hm) h
      simp only [List.set_cons_succ, List.count_cons]
      omega
theorem Fol.count {S : Nat → List Int} {k : Nat} {done : List Int} {R R' : List Bool} (h : Fol S k done R R') : R'.count false ≤ R.count false := by
  have key : ∀ (R R' : List Bool), R'.length = R.length → (∀ i, setAt R i = true → setAt R' i = true) → R'.count false ≤ R.count false := by
    intro R
    induction R with
    | nil => intro R' hl _; rw [List.length_nil] at hl; rw [List.length_eq_zero_iff.1 hl]; exact Nat.le_refl _
    | cons x R ih =>
      intro R' hl ho
      cases R' with
      | nil => simp at hl
      | cons y R' =>
        have h1 := ih R' (by simpa using hl) (fun i hi => ho (i + 1) hi)
        have h0 := ho 0
        have h0' : x = true → y = true := h0
        simp only [List.count_cons]
        cases x <;> cases y <;> simp at h0' ⊢ <;> omega
  exact key R R' h.len h.old

theorem bools_cell {w : World} {RB T : Nat} {R : List Bool} (h : w.heap[RB]? = some (.cells (R.map Value.bool).toArray T (0, 0))) (m : Nat) (hm : m < R.length) : w.cell? ⟨RB, m, none⟩ = some (.bool (setAt R m)) := by
  rw [blk_cell h]
  simp [setAt, List.getD_eq_getElem?_getD, List.getElem?_eq_getElem hm, hm]
theorem bools_set {w : World} {RB T : Nat} {R : List Bool} (h : w.heap[RB]? = some (.cells (R.map Value.bool).toArray T (0, 0))) (m : Nat) : (w.setCell ⟨RB, m, none⟩ (.bool true)).heap[RB]? = some (.cells ((R.set m true).map Value.bool).toArray T (0, 0)) := by
  have := blk_set h m (.bool true)
  rw [this]
  simp [List.map_set]
theorem grown_trans {w w1 w2 : World} {RB : Nat} (h : w.grownBy w1 (some RB)) (h' : w1.grownBy w2 (some RB)) : w.grownBy w2 (some RB) :=
  ⟨h'.os.trans h.os, h'.tape.trans h.tape, h'.output.trans h.output, Nat.le_trans h.size h'.size, fun i hi hn => (h'.block i (Nat.lt_of_lt_of_le hi h.size) hn).trans (h.block i hi hn)⟩
theorem grown_refl (w : World) (RB : Nat) : w.grownBy w (some RB) := ⟨rfl, rfl, rfl, Nat.le_refl _, fun _ _ _ => rfl⟩
theorem grown_below0 {w0 w w1 : World} {RB : Nat} (h : Below RB w0 w) (hs : RB ≤ w.heap.size) (hg : w.grownBy w1 (some RB)) : Below RB w0 w1 := h.grown hg hs (fun k e => by cases e; exact Nat.le_refl _)
theorem R_far {w w1 : World} {base RB : Nat} {v : Value} {xs : List Int} (h : Kd.R (Kd.int .i64) 3 w base (fun _ => True) v xs) (hg : w.grownBy w1 (some RB)) (hb : RB < base) : Kd.R (Kd.int .i64) 3 w1 base (fun _ => True) v xs :=
  Kd.R_grown1 h rfl hg (fun e => by have := Kd.R_base h RB e.symm; omega)

theorem grownBy_setCell'' (W : World) (b o : Nat) (v : Value) : W.grownBy (W.setCell ⟨b, o, none⟩ v) (some b) :=
  ⟨rfl, rfl, rfl, by simp, fun k _ hk => Below.heap_setCell _ _ _ k (fun e => hk (by rw [e]))⟩

set_option maxHeartbeats 8000000 in
set_option maxRecDepth 100000 in
theorem follow_calls (F bl b5 bx bf RB n : Nat) (w0 : World) (S : Nat → List Int) (hn : n ≤ 1000)
    (hcf : ∀ args W, Sem.run Try.prog (callFunc F args) W = .ok (.enter F args) W)
    (hS : ∀ k, k < n → (S k).length ≤ 1000000 ∧ ∀ x ∈ S k, 0 ≤ x ∧ x < n)
    (hstep : ∀ k : Nat, k < n → ∀ W, Below RB w0 W → RB < W.heap.size → Calls Try.prog F #[.int .i64 k, .pointer (some ⟨bl, 0, none⟩)] W fun e w' => ∃ v, e = .returned v ∧ Kd.R (Kd.int .i64) 3 w' W.heap.size (fun _ => True) v (S k) ∧ Below W.heap.size W w')
    (hne : b5 ≠ RB ∧ bx ≠ RB ∧ bf ≠ RB) :
    ∀ (m : Nat) (R : List Bool) (k : Nat) (w : World), R.length = n → R.count false < m → k < n → Below RB w0 w →
      w.heap[b5]? = some (.cells #[.func (.func F) #[] #[.pointer (some ⟨bl, 0, none⟩)]] 95 (0, 0)) → w.heap[bx]? = some (.cells #[.slice (some ⟨RB, 0, none⟩) n n] 121 (0, 0)) →
      w.heap[bf]? = some (.cells #[.func (.func 85) #[] #[.pointer (some ⟨b5, 0, none⟩), .pointer (some ⟨bx, 0, none⟩), .pointer (some ⟨bf, 0, none⟩)]] 122 (0, 0)) →
      w.heap[RB]? = some (.cells (R.map Value.bool).toArray 4 (0, 0)) →
      Calls Try.prog 85 #[.int .i64 k, .pointer (some ⟨b5, 0, none⟩), .pointer (some ⟨bx, 0, none⟩), .pointer (some ⟨bf, 0, none⟩)] w fun e w' => ∃ v R', e = .returned v ∧ Fol S k (S k) R R' ∧ w.grownBy w' (some RB) ∧ w'.heap[RB]? = some (.cells (R'.map Value.bool).toArray 4 (0, 0)) := by
  intro m
  have HSTEP := Aside0.mk hstep
  have HSS := Aside0.mk hS
  have hcf85 : ∀ args W, Sem.run Try.prog (callFunc 85 args) W = .ok (.enter 85 args) W := fun _ _ => rfl
  clear hstep hS
  induction m with
  | zero => intro R k w _ h; omega
  | succ m ih =>
    intro R k w hR hcnt hk hB h5 hx hf hb
    have IH := Aside0.mk ih
    have KB := Aside0.mk hb
    have K5 := Aside0.mk h5
    have KX := Aside0.mk hx
    have KF := Aside0.mk hf
    have HB := Aside0.mk hB
    have HCNT := Aside0.mk hcnt
    have HRL := Aside0.mk hR
    have HSK := Aside0.mk (HSS.out k hk)
    have hSl : (S k).length ≤ 1000000 := HSK.out.1
    have hlt := blk_lt hb
    have k5 := blk_cell h5 0
    clear ih hb h5 hx hf hB hcnt hR
    go_enter Try.func85, Try.ntmps85
    go_wp2_with fail
    refine (HSTEP.out k hk w HB.out hlt).mono ?_
    rintro e w1 ⟨v, rfl, hv, hb1⟩
    have HV := Aside0.mk hv
    have G1 := Aside0.mk (grown_of_below hb1 (some RB))
    have KB1 := Aside0.mk (blk_below KB.out hb1)
    obtain ⟨A, c, rfl⟩ := Kd.R_slice hv
    clear k5 hb1 hv KB
    go_wp2
    go_loopw [11] (fun v wr => ∃ (i : Nat) (R' : List Bool), v = .int .i64 i ∧ i ≤ (S k).length ∧ Aside0 (Fol S k ((S k).take i) R R') ∧ Aside0 (w1.grownBy wr (some RB)) ∧ Aside0 (wr.heap[RB]? = some (.cells (R'.map Value.bool).toArray 4 (0, 0)))) (fun v _ => (S k).length - (intOf v).toNat)
    case atStart => exact ⟨0, R, rfl, by omega, ⟨by rw [List.take_zero]; exact Fol.start S k R⟩, ⟨grown_refl _ _⟩, KB1⟩
    case round =>
      clear KB1
      obtain ⟨i, R', rfl, hi, HF, HG, KB⟩ := hrel
      have hw1 : RB < w1.heap.size := Nat.lt_of_lt_of_le hlt G1.out.size
      have HV2 := Aside0.mk (R_far HV.out HG.out hlt)
      have HG2 := Aside0.mk (grown_trans G1.out HG.out)
      have K5' := Aside0.mk (blk_grown K5.out HG2.out (by simp; exact hne.1))
      have KX' := Aside0.mk (blk_grown KX.out HG2.out (by simp; exact hne.2.1))
      have KF' := Aside0.mk (blk_grown KF.out HG2.out (by simp; exact hne.2.2))
      have HRL' := Aside0.mk (HF.out.len.trans HRL.out)
      by_cases hil : i < (S k).length
      · obtain ⟨_, hlc, hC⟩ := Kd.R_reads' HV2.out
        obtain ⟨ad, e1, y0⟩ := Kd.at_int hC (i : Int) (by omega) (by omega)
        subst e1
        rw [rd_get _ _ hil, Int.toNat_natCast] at y0
        have hx := (HSK.out).2 _ (List.getElem_mem hil)
        have HT := Aside0.mk (show (S k).take (i + 1) = (S k).take i ++ [(S k)[i]] by rw [List.take_succ_eq_append_getElem hil])
        have HMEM := Aside0.mk (List.getElem_mem hil)
        clear hC hlc
        generalize (S k)[i] = x at *
        obtain ⟨q, rfl⟩ := Int.eq_ofNat_of_zero_le hx.1
        have hq : q < n := by omega
        have hcq := bools_cell KB.out q (by rw [HRL'.out]; exact hq)
        have kx := blk_cell KX'.out 0
        have kf := blk_cell KF'.out 0
        have hfq := blk_frozen KB.out q
        clear hx
        cases hs : setAt R' q with
        | true =>
          rw [hs] at hcq
          have HF2 := Aside0.mk (HF.out.skip q hs)
          rw [← HT.out] at HF2
          clear hs
          go_wp2
          go_roundw
          case rel => exact ⟨i + 1, R', by go_num, by omega, HF2, HG, KB⟩
          case measure => simp [intOf]; omega
        | false =>
          rw [hs] at hcq
          have HC2 := Aside0.mk (count_set R' q (by rw [HRL'.out]; exact hq) hs)
          have HC1 := Aside0.mk HF.out.count
          have KB2 := Aside0.mk (bools_set KB.out q)
          have kf2 := blk_cell (blk_far KF'.out (p := ⟨RB, q, none⟩) hne.2.2 (.bool true)) 0
          have kx2 := blk_cell (blk_far KX'.out (p := ⟨RB, q, none⟩) hne.2.1 (.bool true)) 0
          clear hs
          go_wp2_with fail
          clear kf2 kx2 kf kx hcq hfq y0
          refine (IH.out (R'.set q true) q _ (by rw [List.length_set]; exact HRL'.out) (by have := HC2.out; have := HC1.out; have := HCNT.out; omega) hq ?_ ?_ ?_ ?_ KB2.out).mono ?_
          · exact (grown_below0 HB.out (Nat.le_of_lt hlt) HG2.out).setCell (p := ⟨RB, q, none⟩) (Nat.le_refl _) _
          · exact blk_far K5'.out (p := ⟨RB, q, none⟩) hne.1 _
          · exact blk_far KX'.out (p := ⟨RB, q, none⟩) hne.2.1 _
          · exact blk_far KF'.out (p := ⟨RB, q, none⟩) hne.2.2 _
          rintro e w3 ⟨v3, R3, rfl, h1, h2, h3⟩
          have HF3 := Aside0.mk (HF.out.into q (by rw [HRL'.out]; exact hq) HMEM.out h1)
          rw [← HT.out] at HF3
          have HG3 := Aside0.mk (grown_trans HG.out (grown_trans (grownBy_setCell'' _ _ _ _) h2))
          have KB3 := Aside0.mk h3
          clear h1 h2 h3
          go_wp2
          go_roundw
          case rel => exact ⟨i + 1, R3, by go_num, by omega, HF3, HG3, KB3⟩
          case measure => simp [intOf]; omega
      · have hie : i = (S k).length := by omega
        subst hie
        have hf := HF.out
        rw [List.take_length] at hf
        have HF2 := Aside0.mk hf
        clear hf
        go_wp2
        go_end0
        exact ⟨_, R', rfl, HF2.out, HG2.out, KB.out⟩

theorem info4 : (Try.prog.info? 4).map (fun i => (i.zero, i.size, i.bytes)) = some (some (.bool false), 1, 1) := by kernel_rfl
theorem made_false (m : Nat) : madeCells #[Value.bool false] m = ((List.replicate m false).map Value.bool).toArray := by
  apply Array.ext
  · simp [madeCells]
  · intro i h1 h2
    simp [madeCells, Nat.mod_one]

def outS (l : List S25) (R : List Bool) : List Int := ((l.zip R).filter (fun p => p.2)).map (fun p => p.1.f0)
theorem outS_snoc (l : List S25) (R : List Bool) (i : Nat) (h : i < l.length) (h2 : i < R.length) : outS (l.take (i + 1)) (R.take (i + 1)) = outS (l.take i) (R.take i) ++ (if setAt R i = true then [l[i].f0] else []) := by
  unfold outS
  rw [List.take_succ_eq_append_getElem h, List.take_succ_eq_append_getElem h2, List.zip_append (by rw [List.length_take, List.length_take]; omega), List.filter_append, List.map_append]
  have : setAt R i = R[i] := by simp [setAt, List.getD_eq_getElem?_getD, List.getElem?_eq_getElem h2]
  rw [this]
  cases R[i] <;> simp
def ClosRel (l : List S25) (S : Nat → List Int) (id : Int) (out : List Int) (err : Int) : Prop :=
  (checkS l ≠ 0 ∧ out = [] ∧ err = checkS l) ∨ (checkS l = 0 ∧ findS l id < 0 ∧ out = [] ∧ err = 8) ∨
  (checkS l = 0 ∧ 0 ≤ findS l id ∧ err = 0 ∧ ∃ R, Fol S (findS l id).toNat (S (findS l id).toNat) (List.replicate l.length false) R ∧ out = outS l R)

set_option maxHeartbeats 8000000 in
set_option maxRecDepth 100000 in
theorem closure_calls (F bl : Nat) (A : Option Addr) (c : Nat) (l : List S25) (id : Int) (w : World) (S : Nat → List Int) (hr : Kd.C k25 w A l.length l) (hc : l.length ≤ c) (hl : l.length ≤ 1000) (hof : ∀ x ∈ l, x.f3.length ≤ 1000)
    (hcf : ∀ args W, Sem.run Try.prog (callFunc F args) W = .ok (.enter F args) W)
    (hS : checkS l = 0 → ∀ k, k < l.length → (S k).length ≤ 1000000 ∧ ∀ x ∈ S k, 0 ≤ x ∧ x < l.length)
    (hstep : checkS l = 0 → ∀ k : Nat, k < l.length → ∀ W, Below w.heap.size w W → Calls Try.prog F #[.int .i64 k, .pointer (some ⟨bl, 0, none⟩)] W fun e w' => ∃ v, e = .returned v ∧ Kd.R (Kd.int .i64) 3 w' W.heap.size (fun _ => True) v (S k) ∧ Below W.heap.size W w') :
    Calls Try.prog 54 #[.slice A l.length c, .int .i64 id, .func (.func F) #[] #[.pointer (some ⟨bl, 0, none⟩)]] w fun e w' => ∃ v out err, e = .returned (.tuple #[v, .int .i64 err]) ∧ ClosRel l S id out err ∧ Kd.R (Kd.int .i64) 3 w' w.heap.size (fun _ => True) v out ∧ Below w.heap.size w w' := by
  have hu25 := Try.underlying25
  have HR := Aside0.mk hr
  have HOF := Aside0.mk hof
  have HSTEP := Aside0.mk hstep
  have HSS := Aside0.mk hS
  have hmk := fun W => print_make_of (P := Try.prog) 121 4 (.bool false) 1 Try.underlying121 info4 rfl (by decide) l.length (by omega) W
  clear hr hof hstep hS
  go_enter Try.func54, Try.ntmps54
  go_wp2_with fail
  refine (check_calls A l c _ (Kd.C_alloc HR.out _) hc hl HOF.out).mono ?_
  rintro e w1 ⟨rfl, hb⟩
  have K5 := Aside0.mk (blk_below (blk_new w _) hb)
  have HB1 : Aside0 (Below w.heap.size w w1) := ⟨below_step (by (repeat (first | with_reducible exact (Below.refl _ _) | with_reducible refine below_alloc ?_ _))) hb⟩
  clear hb
  by_cases h0 : checkS l = 0
  · have HCK := Aside0.mk h0
    rw [h0]
    clear h0
    go_wp2_with fail
    refine (find_calls A l c id w1 (Kd.C_below HR.out HB1.out) (by omega)).mono ?_
    rintro e w2 ⟨rfl, hb⟩
    replace K5 := Aside0.mk (blk_below K5.out hb)
    have HB2 := Aside0.mk (below_step HB1.out hb)
    clear hb HB1
    by_cases hk : findS l id < 0
    · generalize hfk : findS l id = k at *
      have HK := Aside0.mk hfk
      have HK2 := Aside0.mk hk
      clear hfk
      go_wp2
      go_ret2
      exact ⟨_, _, _, rfl, .inr (.inl ⟨HCK.out, by rw [HK.out]; exact HK2.out, rfl, rfl⟩), Kd.R_nil _ _ _ _ _, HB2.out⟩
    · have hk2 := (idxFrom_lt (fun a : S25 => a.f0 == id) l 0 (by omega)).1
      have hk0 : 0 ≤ findS l id := by omega
      have hk1 : findS l id < l.length := by unfold findS; omega
      clear hk2 hk
      generalize hfk : findS l id = k at *
      have HK := Aside0.mk hfk
      clear hfk
      obtain ⟨j, rfl⟩ := Int.eq_ofNat_of_zero_le hk0
      have hj : j < l.length := by omega
      clear hk0
      go_wp2_with fail
      have hcl : (List.replicate l.length false).count false < l.length + 1 := by simp
      have hss : ∀ k : Nat, k < l.length → ∀ W, Below w2.heap.size w2 W → w2.heap.size < W.heap.size → Calls Try.prog F #[.int .i64 k, .pointer (some ⟨bl, 0, none⟩)] W fun e w' => ∃ v, e = .returned v ∧ Kd.R (Kd.int .i64) 3 w' W.heap.size (fun _ => True) v (S k) ∧ Below W.heap.size W w' :=
        fun k hk W hW _ => HSTEP.out HCK.out k hk W (below_step HB2.out hW)
      have hw5 : w.heap.size < w2.heap.size := blk_lt K5.out
      refine (follow_calls F bl w.heap.size (w2.heap.size + 1) (w2.heap.size + 1 + 1) w2.heap.size l.length w2 S hl hcf (HSS.out HCK.out) hss ⟨by omega, by omega, by omega⟩ (l.length + 1) (List.replicate l.length false) j _ (by simp) hcl hj ?_ ?_ ?_ ?_ ?_).mono ?_
      · exact (((Below.refl _ _).alloc (Nat.le_refl _) _).alloc (by simp) _).alloc (by simp; omega) _
      · exact blk_alloc (blk_alloc (blk_alloc K5.out _) _) _
      · have := blk_alloc (blk_new (w2.alloc (.cells (madeCells #[Value.bool false] l.length) 4)) (.cells #[.slice (some ⟨w2.heap.size, 0, none⟩) l.length l.length] 121)) (.cells #[.func (.func 85) #[] #[.pointer (some ⟨w.heap.size, 0, none⟩), .pointer (some ⟨w2.heap.size + 1, 0, none⟩), .pointer (some ⟨w2.heap.size + 1 + 1, 0, none⟩)]] 122)
        rwa [World.size_alloc] at this
      · have := blk_new ((w2.alloc (.cells (madeCells #[Value.bool false] l.length) 4)).alloc (.cells #[.slice (some ⟨w2.heap.size, 0, none⟩) l.length l.length] 121)) (.cells #[.func (.func 85) #[] #[.pointer (some ⟨w.heap.size, 0, none⟩), .pointer (some ⟨w2.heap.size + 1, 0, none⟩), .pointer (some ⟨w2.heap.size + 1 + 1, 0, none⟩)]] 122)
        rwa [World.size_alloc, World.size_alloc] at this
      · rw [made_false]; exact blk_alloc (blk_alloc (blk_new _ _) _) _
      rintro e w4 ⟨v4, R, rfl, hfol, hg, hKB⟩
      have HFOL := Aside0.mk hfol
      have KB := Aside0.mk hKB
      have KX := Aside0.mk (blk_grown (o := .cells #[.slice (some ⟨w2.heap.size, 0, none⟩) l.length l.length] 121 (0, 0)) (g := w2.heap.size + 1) (by
        have := blk_alloc (blk_new (w2.alloc (.cells (madeCells #[Value.bool false] l.length) 4)) (.cells #[.slice (some ⟨w2.heap.size, 0, none⟩) l.length l.length] 121)) (.cells #[.func (.func 85) #[] #[.pointer (some ⟨w.heap.size, 0, none⟩), .pointer (some ⟨w2.heap.size + 1, 0, none⟩), .pointer (some ⟨w2.heap.size + 1 + 1, 0, none⟩)]] 122)
        rwa [World.size_alloc] at this) hg (by simp))
      have HB4 : Aside0 (Below w.heap.size w w4) := ⟨(below_alloc (below_alloc (below_alloc HB2.out _) _) _).grown hg (by have := HB2.out.size; simp; omega) (fun k e => by cases e; exact HB2.out.size)⟩
      have HRL := Aside0.mk (show R.length = l.length by rw [hfol.len]; simp)
      have kx := blk_cell KX.out 0
      clear hss hcl hfol hg hKB HSTEP HSS KX hmk
      go_wp2
      go_loopw [12, 34] (fun v12 v34 wr => ∃ (i : Nat), v34 = .int .i64 i ∧ i ≤ l.length ∧ Aside0 (Kd.R (Kd.int .i64) 3 wr w.heap.size (fun _ => True) v12 (outS (l.take i) (R.take i))) ∧ Aside0 (wr.heap[w2.heap.size]? = some (.cells (R.map Value.bool).toArray 4 (0, 0))) ∧ Aside0 (Below w.heap.size w wr)) (fun _ v _ => l.length - (intOf v).toNat)
      case atStart => exact ⟨0, rfl, by omega, ⟨Kd.R_nil _ _ _ _ _⟩, KB, HB4⟩
      case round =>
        clear KB HB4 kx
        obtain ⟨i, rfl, hi, HO, KB, HB⟩ := hrel
        by_cases hil : i < l.length
        · obtain ⟨ad, _, _, e1, x0, _⟩ := at_T25 HR.out (i : Int) (by omega) (by omega)
          subst e1
          replace x0 := keep_cell HB.out x0
          rw [rd25_get l i hil, Int.toNat_natCast] at x0
          have hiR : i < R.length := by rw [HRL.out]; exact hil
          have hcq := bools_cell KB.out i hiR
          have HSN := Aside0.mk (outS_snoc l R i hil hiR)
          have HLE : Aside0 ((outS (l.take i) (R.take i)).length ≤ 1000) := ⟨by
            unfold outS
            rw [List.length_map]
            refine Nat.le_trans (List.length_filter_le _ _) ?_
            rw [List.length_zip, List.length_take]; omega⟩
          generalize outS (l.take i) (R.take i) = o at *
          generalize l[i] = a at *
          clear hiR
          cases hs : setAt R i with
          | true =>
            rw [hs] at hcq
            rw [hs, if_pos rfl] at HSN
            clear hs
            go_wp2_with ((with_reducible refine gate_builtin (b := .append) (xs := #[.tmp 40, .tmp 46]) rfl ?_); at_builtin; refine Kd.R_append (Kd.int .i64) (w0 := w) w.heap.size rfl (.tmp 40) (.tmp 46) 23 3 (.int .i64 0) 8 rfl Try.underlying23 info3 rfl (by decide) (by omega) u12 o a.f0 [.int .i64 a.f0] (fun _ => True) (fun _ => False) rfl rfl rfl (fun _ hk => hk.elim) (fun _ _ => trivial) HO.out ?aB ?aS ?aL ?_; (case aB => exact HB.out); (case aS => exact HB.out.size); (case aL => have := HLE.out; omega); intro v1 w1 ho hb hg hat; have n0 := Aside0.mk ho; have n1 := Aside0.mk hb; have n2 := Aside0.mk (blk_grown KB.out hg (Kd.R_ne HO.out KB.out (by decide))); clear ho hb hg hat HO HB KB)
            go_roundw
            case rel => exact ⟨i + 1, by go_num, by omega, by rw [HSN.out]; exact n0, n2, n1⟩
            case measure => simp [intOf]; omega
          | false =>
            rw [hs] at hcq
            rw [hs, if_neg (by simp), List.append_nil] at HSN
            clear hs
            go_wp2
            go_roundw
            case rel => exact ⟨i + 1, by go_num, by omega, by rw [HSN.out]; exact HO, KB, HB⟩
            case measure => simp [intOf]; omega
        · have hie : i = l.length := by omega
          subst hie
          have ho := HO.out
          rw [List.take_length, List.take_of_length_le (by rw [HRL.out]; exact Nat.le_refl _)] at ho
          have HO2 := Aside0.mk ho
          clear ho HO
          go_wp2
          go_ret2
          exact ⟨_, _, _, rfl, .inr (.inr ⟨HCK.out, by rw [HK.out]; omega, rfl, R, by rw [HK.out, Int.toNat_natCast]; exact HFOL.out, rfl⟩), HO2.out, HB.out⟩
  · have g0 : (checkS l != 0) = true := by simpa using h0
    generalize hq : checkS l = q at *
    have H0 := Aside0.mk h0
    have HQ := Aside0.mk hq
    clear h0 hq
    go_wp2
    go_ret2
    exact ⟨_, _, _, rfl, .inl ⟨by rw [HQ.out]; exact H0.out, rfl, HQ.out.symm⟩, Kd.R_nil _ _ _ _ _, HB1.out⟩
end Go.Proofs.Ytlelhmephibfjaa.T

namespace Go.Proofs.Ytlelhmephibfjaa.T
set_option linter.unusedVariables false
set_option linter.unusedSimpArgs false
open Go.RowKit Go.Proofs.YtlelhmephibfjaaW.PrintWords Go.Proofs.YtlelhmephibfjaaW.PrintLast Go.Proofs.YtlelhmephibfjaaW.PrintMore

def upS (l : List S25) (k : Nat) : List Int := (l.getD k z25).f3.map (findS l)
def downS (l : List S25) (k : Nat) : List Int := ((List.range l.length).filter (fun i => decide ((l.getD k z25).f0 ∈ (l.getD i z25).f3))).map (fun i : Nat => (i : Int))
theorem getD_get (l : List S25) (k : Nat) (h : k < l.length) : l.getD k z25 = l[k] := by simp [List.getD_eq_getElem?_getD, List.getElem?_eq_getElem h]

/-- what a ledger without an error tells -/
theorem chk_all : ∀ (r pre : List S25), chk pre r = 0 → ∀ (j : Nat) (h : j < r.length), oneS (pre ++ r.take j) r[j] = 0
  | [], pre, _, j, h => by simp at h
  | a :: r, pre, hc, j, h => by
    rw [chk] at hc
    by_cases e : oneS pre a = 0
    · rw [if_pos e] at hc
      cases j with
      | zero => simpa using e
      | succ j =>
        have := chk_all r (pre ++ [a]) hc j (by simpa using h)
        simpa using this
    · rw [if_neg e] at hc; exact absurd hc e
theorem check_one {l : List S25} (hc : checkS l = 0) (j : Nat) (h : j < l.length) : oneS (l.take j) l[j] = 0 := by
  unfold checkS at hc
  split at hc
  · cases hc
  · simpa using chk_all l [] hc j h
theorem one_found {pre : List S25} {a : S25} (h : oneS pre a = 0) (id : Int) (hid : id ∈ a.f3) : 0 ≤ findS pre id := by
  unfold oneS at h
  split at h
  · cases h
  split at h
  · cases h
  split at h
  · cases h
  rename_i _ _ h3
  simp only [List.any_eq_true, decide_eq_true_eq, not_exists, not_and] at h3
  have := h3 id hid
  omega
theorem up_lt {l : List S25} (hc : checkS l = 0) (k : Nat) (h : k < l.length) (id : Int) (hid : id ∈ l[k].f3) : 0 ≤ findS l id ∧ findS l id < k := by
  have h1 := one_found (check_one hc k h) id hid
  have h2 := findS_take l k id h1
  have h3 := (idxFrom_lt (fun a : S25 => a.f0 == id) (l.take k) 0 (by omega)).1
  have h4 : (l.take k).length = k := by rw [List.length_take]; omega
  unfold findS at *
  omega

set_option maxHeartbeats 8000000 in
set_option maxRecDepth 100000 in
theorem above1_calls (A : Option Addr) (c : Nat) (l : List S25) (k bl : Nat) (w : World) (hr : Kd.C k25 w A l.length l) (hl : l.length ≤ 1000) (hof : ∀ x ∈ l, x.f3.length ≤ 1000) (hk : k < l.length)
    (hb : w.cell? ⟨bl, 0, none⟩ = some (.slice A l.length c)) :
    Calls Try.prog 55 #[.int .i64 k, .pointer (some ⟨bl, 0, none⟩)] w fun e w' => ∃ v, e = .returned v ∧ Kd.R (Kd.int .i64) 3 w' w.heap.size (fun _ => True) v (upS l k) ∧ Below w.heap.size w w' := by
  have hu25 := Try.underlying25
  have HR := Aside0.mk hr
  have HBX := Aside0.mk hb
  obtain ⟨ad, A3, c3, e1, x0, x1, x2, x3, x4, x5, x6, x7, x8, x9, hl3, hi3⟩ := at_T25 hr (k : Int) (by omega) (by omega)
  subst e1
  rw [rd25_get l k hk] at x3 hl3 hi3
  rw [Int.toNat_natCast] at x3
  have HI3 := Aside0.mk hi3
  have HUP := Aside0.mk (show upS l k = l[k].f3.map (findS l) by unfold upS; rw [getD_get l k hk])
  have hx : (l[k]).f3.length ≤ 1000 := hof _ (List.getElem_mem hk)
  clear x0 x1 x2 x4 x5 x6 x7 x8 x9 hi3 hr hof
  generalize l[k].f3 = f at *
  go_enter Try.func55, Try.ntmps55
  go_wp2
  clear x3 hb
  go_loopw [4, 13] (fun v4 v13 wr => ∃ i : Nat, v13 = .int .i64 i ∧ i ≤ f.length ∧ Aside0 (Kd.R (Kd.int .i64) 3 wr w.heap.size (fun _ => True) v4 ((f.take i).map (findS l))) ∧ Aside0 (Below w.heap.size w wr)) (fun _ v _ => f.length - (intOf v).toNat)
  case atStart => exact ⟨0, rfl, by omega, ⟨Kd.R_nil _ _ _ _ _⟩, ⟨Below.refl _ _⟩⟩
  case round =>
    obtain ⟨i, rfl, hi, HO, HB⟩ := hrel
    by_cases hil : i < f.length
    · obtain ⟨ad3, e3, y0⟩ := Kd.at_int (Kd.C_below HI3.out HB.out) (i : Int) (by omega) (by omega)
      subst e3
      rw [rd_get _ _ hil, Int.toNat_natCast] at y0
      have HSN := Aside0.mk (show (f.take (i + 1)).map (findS l) = (f.take i).map (findS l) ++ [findS l f[i]] by rw [List.take_succ_eq_append_getElem hil, List.map_append]; rfl)
      have HLE : Aside0 (((f.take i).map (findS l)).length ≤ 1000) := ⟨by rw [List.length_map, List.length_take]; omega⟩
      generalize (f.take i).map (findS l) = o at *
      generalize f[i] = x at *
      have kb := keep_cell HB.out HBX.out
      go_wp2_with fail
      clear kb y0
      refine (find_calls (some ad) l c x wr (Kd.C_below HR.out HB.out) (by omega)).mono ?_
      rintro e w2 ⟨rfl, hb2⟩
      have HO2 := Aside0.mk (Kd.R_below HO.out hb2)
      have HB2 := Aside0.mk (below_step HB.out hb2)
      clear hb2 HO HB
      generalize findS l x = q at *
      go_wp2_with ((with_reducible refine gate_builtin (b := .append) (xs := #[.tmp 17, .tmp 21]) rfl ?_); at_builtin; refine Kd.R_append (Kd.int .i64) (w0 := w) w.heap.size rfl (.tmp 17) (.tmp 21) 23 3 (.int .i64 0) 8 rfl Try.underlying23 info3 rfl (by decide) (by omega) u4 o q [.int .i64 q] (fun _ => True) (fun _ => False) rfl rfl rfl (fun _ hk => hk.elim) (fun _ _ => trivial) HO2.out ?aB ?aS ?aL ?_; (case aB => exact HB2.out); (case aS => exact HB2.out.size); (case aL => have := HLE.out; omega); intro v1 w1 ho hb hg hat; have n0 := Aside0.mk ho; have n1 := Aside0.mk hb; clear ho hb hg hat HO2 HB2)
      go_roundw
      case rel => exact ⟨i + 1, by go_num, by omega, by rw [HSN.out]; exact n0, n1⟩
      case measure => simp [intOf]; omega
    · have hie : i = f.length := by omega
      subst hie
      have ho := HO.out
      rw [List.take_length] at ho
      have HO2 := Aside0.mk ho
      clear ho HO
      go_wp2
      go_ret
      exact ⟨_, rfl, by rw [HUP.out]; exact HO2.out, HB.out⟩

def downTo (l : List S25) (k n : Nat) : List Int := ((List.range n).filter (fun i => decide ((l.getD k z25).f0 ∈ (l.getD i z25).f3))).map (fun i : Nat => (i : Int))
theorem downTo_succ (l : List S25) (k n : Nat) : downTo l k (n + 1) = downTo l k n ++ (if decide ((l.getD k z25).f0 ∈ (l.getD n z25).f3) = true then [(n : Int)] else []) := by
  unfold downTo
  rw [List.range_succ, List.filter_append, List.map_append]
  congr 1
  by_cases h : (l.getD k z25).f0 ∈ (l.getD n z25).f3
  · simp only [List.filter_cons, decide_eq_true h, if_true, List.filter_nil, List.map_cons, List.map_nil]
  · simp only [List.filter_cons, decide_eq_false h, Bool.false_eq_true, if_false, List.filter_nil, List.map_nil]
theorem downTo_len (l : List S25) (k n : Nat) : (downTo l k n).length ≤ n := by
  unfold downTo
  rw [List.length_map]
  exact Nat.le_trans (List.length_filter_le _ _) (by simp)

set_option maxHeartbeats 8000000 in
set_option maxRecDepth 100000 in
theorem below1_calls (A : Option Addr) (c : Nat) (l : List S25) (k bl : Nat) (w : World) (hr : Kd.C k25 w A l.length l) (hl : l.length ≤ 1000) (hof : ∀ x ∈ l, x.f3.length ≤ 1000) (hk : k < l.length)
    (hb : w.cell? ⟨bl, 0, none⟩ = some (.slice A l.length c)) :
    Calls Try.prog 57 #[.int .i64 k, .pointer (some ⟨bl, 0, none⟩)] w fun e w' => ∃ v, e = .returned v ∧ Kd.R (Kd.int .i64) 3 w' w.heap.size (fun _ => True) v (downS l k) ∧ Below w.heap.size w w' := by
  have hu25 := Try.underlying25
  have HR := Aside0.mk hr
  have HBX := Aside0.mk hb
  have HOF := Aside0.mk hof
  obtain ⟨ad, _, _, e1, xk, _⟩ := at_T25 hr (k : Int) (by omega) (by omega)
  subst e1
  rw [rd25_get l k hk, Int.toNat_natCast] at xk
  have HXK := Aside0.mk xk
  have HGK := Aside0.mk (getD_get l k hk)
  have HDN := Aside0.mk (show downS l k = downTo l k l.length from rfl)
  clear hr xk hof
  generalize hak : l[k] = ak at *
  have HAK := Aside0.mk hak
  clear hak
  go_enter Try.func57, Try.ntmps57
  go_wp2
  clear hb
  go_loopw [4, 9] (fun v4 v9 wr => ∃ i : Nat, v9 = .int .i64 i ∧ i ≤ l.length ∧ Aside0 (Kd.R (Kd.int .i64) 3 wr w.heap.size (fun _ => True) v4 (downTo l k i)) ∧ Aside0 (Below w.heap.size w wr)) (fun _ v _ => l.length - (intOf v).toNat)
  case atStart => exact ⟨0, rfl, by omega, ⟨Kd.R_nil _ _ _ _ _⟩, ⟨Below.refl _ _⟩⟩
  case round =>
    obtain ⟨i, rfl, hi, HO, HB⟩ := hrel
    by_cases hil : i < l.length
    · obtain ⟨ad', A3, c3, e1, x0, x1, x2, x3, x4, x5, x6, x7, x8, x9, hl3, hi3⟩ := at_T25 (Kd.C_below HR.out HB.out) (i : Int) (by omega) (by omega)
      obtain rfl := Option.some.inj e1
      rw [rd25_get l i hil] at x0 x1 x2 x3 x4 x5 x6 x7 x8 x9 hl3 hi3
      rw [Int.toNat_natCast] at x0 x1 x2 x3 x4 x5 x6 x7 x8 x9
      have HI3 := Aside0.mk hi3
      have hx : (l[i]).f3.length ≤ 1000 := HOF.out _ (List.getElem_mem hil)
      have HSN := Aside0.mk (downTo_succ l k i)
      rw [HGK.out, getD_get l i hil] at HSN
      have HLE := Aside0.mk (downTo_len l k i)
      generalize downTo l k i = o at *
      generalize l[i] = a at *
      have kb := keep_cell HB.out HBX.out
      have kk := keep_cell HB.out HXK.out
      obtain ⟨kf, hkf⟩ := (contains_t a.f3 ak.f0 (by omega)).rounds
      have HKF := Aside0.mk hkf
      have kb' := fun o => keep_alloc (o := o) kb
      have kk' := fun o => keep_alloc (o := o) kk
      clear hi3 hkf
      go_wp2_with fail
      clear x0 x1 x2 x3 x4 x5 x6 x7 x8 x9 kb kk
      have kn := blk_cell (blk_new wr (.cells #[.int .i64 a.f0, .int .i64 a.f1, .int .i64 a.f2, .slice A3 a.f3.length c3, .int .i64 a.f4, .int .i64 a.f5, .int .i64 a.f6, .int .i64 a.f7, .int .i64 a.f8, .int .i64 a.f9] 25))
      have HQ : ∀ n, Calls Try.prog 51 #[.slice A3 a.f3.length c3, .int .i64 ak.f0] ((wr.alloc (.cells #[.int .i64 a.f0, .int .i64 a.f1, .int .i64 a.f2, .slice A3 a.f3.length c3, .int .i64 a.f4, .int .i64 a.f5, .int .i64 a.f6, .int .i64 a.f7, .int .i64 a.f8, .int .i64 a.f9] 25)).drewN n) fun e w' => e = .returned (.bool (decide (ak.f0 ∈ a.f3))) ∧ ∃ m, w' = ((wr.alloc (.cells #[.int .i64 a.f0, .int .i64 a.f1, .int .i64 a.f2, .slice A3 a.f3.length c3, .int .i64 a.f4, .int .i64 a.f5, .int .i64 a.f6, .int .i64 a.f7, .int .i64 a.f8, .int .i64 a.f9] 25)).drewN n).drewN m := fun n => (slices_Contains_int_int.calls kf A3 c3 a.f3 ak.f0 _ _ (Kd.C_drewN (Kd.C_alloc HI3.out _) _) hl3 HKF.out).mono fun e w' ⟨h1, h2⟩ => ⟨h1, h2.out⟩
      have HQ := Aside0.mk HQ
      go_quiet ((go_at_call 51; exact Calls.quiet_of (HQ.out _)))
      clear kn kb' kk' HQ
      have HO2 := Aside0.mk (Kd.R_drewN (Kd.R_alloc HO.out (.cells #[.int .i64 a.f0, .int .i64 a.f1, .int .i64 a.f2, .slice A3 a.f3.length c3, .int .i64 a.f4, .int .i64 a.f5, .int .i64 a.f6, .int .i64 a.f7, .int .i64 a.f8, .int .i64 a.f9] 25)) nq)
      have HB2 := Aside0.mk (pw_below_drewN (below_alloc HB.out (.cells #[.int .i64 a.f0, .int .i64 a.f1, .int .i64 a.f2, .slice A3 a.f3.length c3, .int .i64 a.f4, .int .i64 a.f5, .int .i64 a.f6, .int .i64 a.f7, .int .i64 a.f8, .int .i64 a.f9] 25)) nq)
      clear HO HB
      generalize (wr.alloc (.cells #[.int .i64 a.f0, .int .i64 a.f1, .int .i64 a.f2, .slice A3 a.f3.length c3, .int .i64 a.f4, .int .i64 a.f5, .int .i64 a.f6, .int .i64 a.f7, .int .i64 a.f8, .int .i64 a.f9] 25)).drewN nq = W2 at *
      cases hd : decide (ak.f0 ∈ a.f3) with
      | true =>
        rw [hd, if_pos rfl] at HSN
        clear hd
        go_wp2_with ((with_reducible refine gate_builtin (b := .append) (xs := #[.tmp 22, .tmp 24]) rfl ?_); at_builtin; refine Kd.R_append (Kd.int .i64) (w0 := w) w.heap.size rfl (.tmp 22) (.tmp 24) 23 3 (.int .i64 0) 8 rfl Try.underlying23 info3 rfl (by decide) (by omega) u4 o i [.int .i64 i] (fun _ => True) (fun _ => False) rfl rfl rfl (fun _ hk => hk.elim) (fun _ _ => trivial) HO2.out ?aB ?aS ?aL ?_; (case aB => exact HB2.out); (case aS => exact HB2.out.size); (case aL => have := HLE.out; omega); intro v1 w1 ho hb hg hat; have n0 := Aside0.mk ho; have n1 := Aside0.mk hb; clear ho hb hg hat HO2 HB2)
        go_roundw
        case rel => exact ⟨i + 1, by go_num, by omega, by rw [HSN.out]; exact n0, n1⟩
        case measure => simp [intOf]; omega
      | false =>
        rw [hd, if_neg (by simp), List.append_nil] at HSN
        clear hd
        go_wp2
        go_roundw
        case rel => exact ⟨i + 1, by go_num, by omega, by rw [HSN.out]; exact HO2, HB2⟩
        case measure => simp [intOf]; omega
    · have hie : i = l.length := by omega
      subst hie
      go_wp2
      go_ret
      exact ⟨_, rfl, by rw [HDN.out]; exact HO.out, HB.out⟩

theorem upS_ok {l : List S25} (hc : checkS l = 0) (hl : l.length ≤ 1000) (hof : ∀ x ∈ l, x.f3.length ≤ 1000) (k : Nat) (hk : k < l.length) : (upS l k).length ≤ 1000000 ∧ ∀ x ∈ upS l k, 0 ≤ x ∧ x < l.length := by
  have e : upS l k = l[k].f3.map (findS l) := by unfold upS; rw [getD_get l k hk]
  rw [e]
  refine ⟨by rw [List.length_map]; have := hof _ (List.getElem_mem hk); omega, fun x hx => ?_⟩
  obtain ⟨id, hid, rfl⟩ := List.mem_map.1 hx
  have := up_lt hc k hk id hid
  omega
theorem downS_ok (l : List S25) (hl : l.length ≤ 1000) (k : Nat) : (downS l k).length ≤ 1000000 ∧ ∀ x ∈ downS l k, 0 ≤ x ∧ x < l.length := by
  refine ⟨by have := downTo_len l k l.length; unfold downTo at this; unfold downS; omega, fun x hx => ?_⟩
  unfold downS at hx
  obtain ⟨i, hi, rfl⟩ := List.mem_map.1 hx
  have := List.mem_range.1 (List.mem_filter.1 hi).1
  omega

set_option maxHeartbeats 8000000 in
set_option maxRecDepth 100000 in
theorem above_calls (A : Option Addr) (c : Nat) (l : List S25) (id : Int) (w : World) (hr : Kd.C k25 w A l.length l) (hc : l.length ≤ c) (hl : l.length ≤ 1000) (hof : ∀ x ∈ l, x.f3.length ≤ 1000) :
    Calls Try.prog 15 #[.slice A l.length c, .int .i64 id] w fun e w' => ∃ v out err, e = .returned (.tuple #[v, .int .i64 err]) ∧ ClosRel l (upS l) id out err ∧ Kd.R (Kd.int .i64) 3 w' w.heap.size (fun _ => True) v out ∧ Below w.heap.size w w' := by
  have HR := Aside0.mk hr
  have HOF := Aside0.mk hof
  clear hr hof
  go_enter Try.func15, Try.ntmps15
  go_wp2_with fail
  refine (closure_calls 55 w.heap.size A c l id _ (upS l) (Kd.C_alloc HR.out _) hc hl HOF.out (fun _ _ => rfl) (fun h k hk => upS_ok h hl HOF.out k hk) ?_).mono ?_
  · intro hck k hk W hW
    exact above1_calls A c l k w.heap.size W (Kd.C_below (Kd.C_alloc HR.out _) hW) hl HOF.out hk (keep_cell hW (blk_cell (blk_new w _) 0))
  · rintro e w2 ⟨v, out, err, rfl, hrel, hR, hb⟩
    have HREL := Aside0.mk hrel
    have HRR := Aside0.mk hR
    have HB := Aside0.mk hb
    obtain ⟨Av, cv, rfl⟩ := Kd.R_slice hR
    clear hrel hR hb
    go_wp2
    go_ret2
    exact ⟨_, _, _, rfl, HREL.out, Kd.R_lower HRR.out (by simp), below_step (below_alloc (Below.refl _ _) _) HB.out⟩

set_option maxHeartbeats 8000000 in
set_option maxRecDepth 100000 in
theorem belowT_calls (A : Option Addr) (c : Nat) (l : List S25) (id : Int) (w : World) (hr : Kd.C k25 w A l.length l) (hc : l.length ≤ c) (hl : l.length ≤ 1000) (hof : ∀ x ∈ l, x.f3.length ≤ 1000) :
    Calls Try.prog 17 #[.slice A l.length c, .int .i64 id] w fun e w' => ∃ v out err, e = .returned (.tuple #[v, .int .i64 err]) ∧ ClosRel l (downS l) id out err ∧ Kd.R (Kd.int .i64) 3 w' w.heap.size (fun _ => True) v out ∧ Below w.heap.size w w' := by
  have HR := Aside0.mk hr
  have HOF := Aside0.mk hof
  clear hr hof
  go_enter Try.func17, Try.ntmps17
  go_wp2_with fail
  refine (closure_calls 57 w.heap.size A c l id _ (downS l) (Kd.C_alloc HR.out _) hc hl HOF.out (fun _ _ => rfl) (fun h k hk => downS_ok l hl k) ?_).mono ?_
  · intro hck k hk W hW
    exact below1_calls A c l k w.heap.size W (Kd.C_below (Kd.C_alloc HR.out _) hW) hl HOF.out hk (keep_cell hW (blk_cell (blk_new w _) 0))
  · rintro e w2 ⟨v, out, err, rfl, hrel, hR, hb⟩
    have HREL := Aside0.mk hrel
    have HRR := Aside0.mk hR
    have HB := Aside0.mk hb
    obtain ⟨Av, cv, rfl⟩ := Kd.R_slice hR
    clear hrel hR hb
    go_wp2
    go_ret2
    exact ⟨_, _, _, rfl, HREL.out, Kd.R_lower HRR.out (by simp), below_step (below_alloc (Below.refl _ _) _) HB.out⟩
end Go.Proofs.Ytlelhmephibfjaa.T

namespace Go.Proofs.Ytlelhmephibfjaa.T
set_option linter.unusedVariables false
set_option linter.unusedSimpArgs false
open Go.RowKit Go.Shelf Go.Proofs.YtlelhmephibfjaaW.PrintWords Go.Proofs.YtlelhmephibfjaaW.PrintLast Go.Proofs.YtlelhmephibfjaaW.PrintMore
attribute [local go_sem] Oper.semAt_some

/-- what a round leaves as it lay -/
structure Fr (n0 : Nat) (w0 W0 : World) (keep : List (Nat × Obj)) (W : World) : Prop where
  bel : Below n0 w0 W
  siz : W0.heap.size ≤ W.heap.size
  kept : ∀ p ∈ keep, W.heap[p.1]? = some p.2
theorem Fr.step {n0 : Nat} {w0 W0 W W' : World} {keep : List (Nat × Obj)} {row : Option Nat} (h : Fr n0 w0 W0 keep W) (hn : n0 ≤ w0.heap.size) (hg : W.grownBy W' row) (hr : ∀ k, row = some k → n0 ≤ k ∧ ∀ p ∈ keep, p.1 ≠ k) : Fr n0 w0 W0 keep W' :=
  ⟨h.bel.grown hg (Nat.le_trans hn h.bel.size) (fun k e => (hr k e).1), Nat.le_trans h.siz hg.size, fun p hp => (hg.block p.1 (Array.getElem?_eq_some_iff.1 (h.kept p hp)).1 (fun e => (hr p.1 e.symm).2 p hp rfl)).trans (h.kept p hp)⟩
theorem Fr.below {n0 : Nat} {w0 W0 W W' : World} {keep : List (Nat × Obj)} (h : Fr n0 w0 W0 keep W) (hn : n0 ≤ w0.heap.size) (hb : Below W.heap.size W W') : Fr n0 w0 W0 keep W' := h.step hn (grown_of_below hb none) (fun k e => by cases e)
theorem Fr.alloc {n0 : Nat} {w0 W0 W : World} {keep : List (Nat × Obj)} (h : Fr n0 w0 W0 keep W) (hn : n0 ≤ w0.heap.size) (o : Obj) : Fr n0 w0 W0 keep (W.alloc o) := h.below hn (below_alloc (Below.refl _ _) o)
theorem Fr.set {n0 : Nat} {w0 W0 W : World} {keep : List (Nat × Obj)} (h : Fr n0 w0 W0 keep W) (hn : n0 ≤ w0.heap.size) (b o : Nat) (v : Value) (hb : n0 ≤ b) (hk : ∀ p ∈ keep, p.1 ≠ b) : Fr n0 w0 W0 keep (W.setCell ⟨b, o, none⟩ v) := h.step hn (grownBy_setCell'' W b o v) (fun k e => by cases e; exact ⟨hb, hk⟩)
theorem fr_own {β : Type} {n0 B : Nat} {w0 W0 : World} {keep : List (Nat × Obj)} (hn : n0 ≤ w0.heap.size) (hB : n0 ≤ B) (hk : ∀ p ∈ keep, p.2.isCells = true) : OwnFrom B (fun (_ : β) W => Fr n0 w0 W0 keep W) := fun _ W W' row h hg hr =>
  h.step hn hg (fun k e => ⟨Nat.le_trans hB (hr k e).1, fun p hp hpk => by
    obtain ⟨_, o, ho, hc⟩ := hr k e
    have h1 := h.kept p hp
    rw [hpk, ho] at h1
    injection h1 with h1
    have h2 := hk p hp
    rw [← h1, hc] at h2; cases h2⟩)
theorem keepsFrom_below {B : Nat} {W W' : World} (h : Below W.heap.size W W') : KeepsFrom B W W' := ⟨h.size, fun k o _ hk _ => (h.block k (Array.getElem?_eq_some_iff.1 hk).1).trans hk⟩
theorem kpo_below {n₀ bo : Nat} {W W' : World} (hn : n₀ ≤ W.heap.size) (h : Below W.heap.size W W') : KpO n₀ bo W W' := ⟨h.mono hn, fun o ho => (h.block bo (Array.getElem?_eq_some_iff.1 ho).1).trans ho⟩
theorem kpo_grown {n₀ bo : Nat} {W W' : World} {row : Option Nat} (hn : n₀ ≤ W.heap.size) (h : W.grownBy W' row) (hr : ∀ k, row = some k → n₀ ≤ k ∧ bo ≠ k) : KpO n₀ bo W W' :=
  ⟨(Below.refl n₀ W).grown h hn (fun k e => (hr k e).1), fun o ho => (h.block bo (Array.getElem?_eq_some_iff.1 ho).1 (fun e => (hr bo e.symm).2 rfl)).trans ho⟩

theorem own_lower {W : World} {base base' : Nat} {e size n : Nat} {v : Value} {xs : List Value} (h : W.ownsRow base e size v n xs) (hb : base' ≤ base) : W.ownsRow base' e size v n xs := by
  obtain ⟨h1, h2⟩ := h
  refine ⟨h1, ?_⟩
  rcases h2 with h2 | ⟨g, cap, cur, rfl, hg, r⟩
  · exact .inl h2
  · exact .inr ⟨g, cap, cur, rfl, Nat.le_trans hb hg, r⟩
theorem grown_alloc {W W' : World} {o : Obj} {row : Option Nat} (h : (W.alloc o).grownBy W' row) : W.grownBy W' row :=
  ⟨h.os, h.tape, h.output, Nat.le_trans (by simp) h.size, fun i hi hn => (h.block i (by simp; omega) hn).trans (Below.heap_alloc W o i hi)⟩
theorem R_of_ownI {w : World} {base e : Nat} {v : Value} {xs : List Int} (ho : w.ownsRow base e 1 v xs.length (xs.map (Value.int .i64))) : Kd.R (Kd.int .i64) e w base (fun _ => True) v xs := Kd.R_of_own ho (fun _ _ => trivial)

def AtS (l : List S25) (o tick : Int) : List Int × Int :=
  if askedS l o tick 0 1000000 ≠ 0 then ([], askedS l o tick 0 1000000) else (((ofS o l).filter (fun a => thereS a tick)).map (·.f0), 0)

set_option maxRecDepth 100000 in
set_option maxHeartbeats 4000000 in
theorem at_calls (A : Option Addr) (c : Nat) (l : List S25) (o tick : Int) (w : World) (hr : Kd.C k25 w A l.length l) (hc : l.length ≤ c) (hl : l.length ≤ 1000) (hof : ∀ x ∈ l, x.f3.length ≤ 1000) :
    Calls Try.prog 25 #[.slice A l.length c, .int .i64 o, .int .i64 tick] w fun e w' => ∃ v, e = .returned (.tuple #[v, .int .i64 (AtS l o tick).2]) ∧ Kd.R (Kd.int .i64) 3 w' w.heap.size (fun _ => True) v (AtS l o tick).1 ∧ Below w.heap.size w w' := by
  have hu25 := Try.underlying25
  have HR := Aside0.mk hr
  have HOF := Aside0.mk hof
  have HASK := Aside0.mk (asked_t l o tick 0 1000000 hl hof)
  clear hr hof
  refine (callsIn_wide (n := 3)).1 ?_
  refine callsIn_of_wp_marks Try.func25 rfl trivial ?_ rfl
  simp only [Try.ntmps25, List.size_toArray, List.length_cons, List.length_nil, Nat.reduceAdd, Nat.reduceSub, Array.replicate_succ, Array.replicate_zero, List.push_toArray, List.append_toArray, List.nil_append, List.cons_append]
  gi_wp2_with fail
  refine ⟨trivial, (callsIn_wide.2 (trace_asked.calls A c l o tick 0 1000000 _ _ (Kd.C_alloc HR.out _) hc HASK.out)).mono ?_⟩
  rintro e w1 ⟨rfl, hb⟩
  have KT := Aside0.mk (blk_below (blk_new w (.cells #[.int .i64 tick] 3)) hb)
  have HB1 : Aside0 (Below w.heap.size w w1) := ⟨below_step (below_alloc (Below.refl _ _) _) hb⟩
  clear hb HASK
  by_cases h0 : askedS l o tick 0 1000000 = 0
  · have HP := Aside0.mk (show AtS l o tick = (((ofS o l).filter (fun a => thereS a tick)).map (·.f0), 0) by unfold AtS; rw [if_neg (by simpa using h0)])
    rw [h0]
    clear h0
    gi_wp2_with fail
    refine ⟨trivial, (callsIn_wide.2 (of_calls A l.length c o _)).mono ?_⟩
    rintro e w2 ⟨rfl, rfl⟩
    gi_wp2_with fail
    have bO : Boxed (((w1.alloc (.cells #[.slice none 0 0] 23)).alloc (.cells #[.slice A l.length c] 22)).alloc (.cells #[.int .i64 o] 3)) w1.heap.size 23 (.slice none 0 0) := ((Boxed.new w1 23 (.slice none 0 0)).alloc _).alloc _
    have bL := (Boxed.new (w1.alloc (.cells #[.slice none 0 0] 23)) 22 (.slice A l.length c)).alloc (.cells #[.int .i64 o] 3)
    have bQ := Boxed.new ((w1.alloc (.cells #[.slice none 0 0] 23)).alloc (.cells #[.slice A l.length c] 22)) 3 (.int .i64 o)
    simp only [World.size_alloc] at bL bQ
    have hw1 := HB1.out.size
    have hlt1 := blk_lt KT.out
    have HF0 : Fr w.heap.size w (((w1.alloc (.cells #[.slice none 0 0] 23)).alloc (.cells #[.slice A l.length c] 22)).alloc (.cells #[.int .i64 o] 3)) [(w.heap.size, .cells #[.int .i64 tick] 3 (0, 0))] (((w1.alloc (.cells #[.slice none 0 0] 23)).alloc (.cells #[.slice A l.length c] 22)).alloc (.cells #[.int .i64 o] 3)) :=
      ⟨below_alloc (below_alloc (below_alloc HB1.out _) _) _, Nat.le_refl _, by simp only [List.mem_singleton, forall_eq]; exact blk_alloc (blk_alloc (blk_alloc KT.out _) _) _⟩
    have hsz : (((w1.alloc (.cells #[.slice none 0 0] 23)).alloc (.cells #[.slice A l.length c] 22)).alloc (.cells #[.int .i64 o] 3)).heap.size = w1.heap.size + 3 := by simp
    obtain ⟨W0, hW0⟩ : ∃ W0, ((w1.alloc (.cells #[.slice none 0 0] 23)).alloc (.cells #[.slice A l.length c] 22)).alloc (.cells #[.int .i64 o] 3) = W0 := ⟨_, rfl⟩
    rw [hW0] at bO bL bQ HF0 hsz ⊢
    clear hW0
    obtain ⟨i0, hi, hz0, hz1, hz2⟩ := info_parts info3
    refine wpIn_rangeFunc_ownH rfl (by omega) (gf := 89) (lb := #[.pointer (some ⟨w1.heap.size + 1, 0, none⟩), .pointer (some ⟨w1.heap.size + 1 + 1, 0, none⟩)]) rfl trivial (enters_of Try.func89 (by kernel_rfl) rfl)
      (of1_stops Fence.wide 2 trivial rfl (by omega) (w1.heap.size + 1) (w1.heap.size + 1 + 1) A c l o w W0 HR.out hl HF0.bel bL.cell bQ) KpO.t (KpO.b (by omega) (by omega)) (Below.refl _ _) (fun _ => rfl)
      (fun pre W => (∃ v, Boxed W w1.heap.size 23 v ∧ W.ownsRow W0.heap.size 3 1 v (((pre.map Item.val).filter (fun a => thereS a tick)).map (·.f0)).length ((((pre.map Item.val).filter (fun a => thereS a tick)).map (·.f0)).map (Value.int .i64)) ∧ True) ∧ Fr w.heap.size w W0 [(w.heap.size, .cells #[.int .i64 tick] 3 (0, 0))] W)
      (fun _ _ _ => False)
      (OwnFrom.and (Own.from (holdsRow_own W0.heap.size w1.heap.size 23 3 1 (fun pre : List (Item w l) => (((pre.map Item.val).filter (fun a => thereS a tick)).map (·.f0)).length) (fun pre => (((pre.map Item.val).filter (fun a => thereS a tick)).map (·.f0)).map (Value.int .i64)) (fun _ _ => True)) _) (fr_own (Nat.le_refl _) (by omega) (by simp [Obj.isCells])))
      (fun _ _ _ _ _ hs _ _ => hs)
      ⟨⟨_, bO, World.ownsRow_nil _ _ _ _, trivial⟩, HF0⟩
      (fun x a' W => ∃ Bx, W0.heap.size ≤ Bx ∧ W.heap[Bx]? = some (.cells #[.int .i64 x.1.1.f0, .int .i64 x.1.1.f1, .int .i64 x.1.1.f2, .slice x.1.2.1 x.1.1.f3.length x.1.2.2, .int .i64 x.1.1.f4, .int .i64 x.1.1.f5, .int .i64 x.1.1.f6, .int .i64 x.1.1.f7, .int .i64 x.1.1.f8, .int .i64 x.1.1.f9] 25 (0, 0)) ∧
        a' = { tmps := #[.slice A l.length c, .int .i64 o, .int .i64 tick, undef, undef, .pointer (some ⟨w.heap.size, 0, none⟩), .slice none 0 0, .int .i64 0, .int .i64 0, .pointer (some ⟨w1.heap.size, 0, none⟩), .pointer (some ⟨Bx, 0, none⟩), .slice A l.length c, .int .i64 o, .int .i64 tick, .int .i64 0, .int .i64 0, .bool false, undef, .slice A l.length c, .int .i64 o, .func (.func 89) #[] #[.pointer (some ⟨w1.heap.size + 1, 0, none⟩), .pointer (some ⟨w1.heap.size + 1 + 1, 0, none⟩)], V25 x.1.1 x.1.2.1 x.1.2.2, undef, undef, undef, undef, undef, undef, undef, undef, undef], defers := [] })
      (fun x a' _ X Y row hs hg hr => by
        obtain ⟨Bx, h1, h2, h3⟩ := hs
        exact ⟨Bx, h1, (hg.block Bx (Array.getElem?_eq_some_iff.1 h2).1 (fun e => by obtain ⟨_, q, hq, hc⟩ := hr Bx e.symm; rw [h2] at hq; cases hq; cases hc)).trans h2, h3⟩)
      ?assign ?body ?done ?stop
    case assign =>
      rintro l' pre x W K ⟨⟨v, hv, hrow, _⟩, hF⟩ hK
      have hsW := hF.siz
      simp only [encItem, V25]
      gi_wp2
      exact hK _ _ ((KeepsOthers.alloc _ _).from _) (kpo_below (by omega) (below_alloc (Below.refl _ _) _)) ⟨⟨v, hv.alloc _, hrow.alloc _, trivial⟩, hF.alloc (Nat.le_refl _) _⟩ ⟨W.heap.size, hsW, blk_new _ _, rfl⟩
    case body =>
      rintro l' pre x a' W hl' ⟨r, hrl⟩ ⟨⟨v, hv, hrow, _⟩, hF⟩ ⟨Bx, hBx, bX, rfl⟩ hlt
      obtain ⟨⟨a, A3, c3⟩, hmem, hl3, hi3⟩ := x
      simp only at bX
      have hsW := hF.siz
      have hfilt : (((pre.map Item.val).filter (fun a => thereS a tick)).map (·.f0)).length ≤ 1000 := by
        rw [List.length_map]; refine Nat.le_trans (List.length_filter_le _ _) ?_; rw [List.length_map]; omega
      have HSN : ∀ (hp : a ∈ l ∧ a.f3.length ≤ c3 ∧ Kd.C (Kd.int .i64) w A3 a.f3.length a.f3), ((((pre ++ [(⟨(a, A3, c3), hp⟩ : Item w l)]).map Item.val).filter (fun a => thereS a tick)).map (·.f0)) = (((pre.map Item.val).filter (fun a => thereS a tick)).map (·.f0)) ++ (if thereS a tick = true then [a.f0] else []) := by
        intro hp
        rw [List.map_append, List.filter_append, List.map_append]
        congr 1
        by_cases e : thereS a tick = true
        · simp only [List.map_cons, List.map_nil, Item.val, List.filter_cons, e, if_true, List.filter_nil]
        · simp only [List.map_cons, List.map_nil, Item.val, List.filter_cons, e, if_false, List.filter_nil]; rfl
      have HSN := Aside0.mk (HSN ⟨hmem, hl3, hi3⟩)
      have HF := Aside0.mk hF
      have HV := Aside0.mk hv
      have HROW := Aside0.mk hrow
      have HBXX := Aside0.mk bX
      have HI3 := Aside0.mk hi3
      have HFI := Aside0.mk hfilt
      have kt := blk_cell (hF.kept _ (List.mem_singleton.2 rfl)) 0
      have kx := blk_cell bX
      generalize ((pre.map Item.val).filter (fun a => thereS a tick)).map (·.f0) = q at *
      clear hF hv hrow bX hrl hfilt
      gi_wp2_with fail
      refine ⟨trivial, (CallsIn.inRound l' (callsIn_wide.2 (trace_there.calls _ _ _ _ c3 a.f3 _ _ _ _ _ _ tick _ _ (Kd.C_below HI3.out HF.out.bel) hl3 (there_t a tick)))).mono ?_⟩
      rintro e w3 ⟨rfl, hb⟩
      have HB := Aside0.mk hb
      have HF3 := Aside0.mk (HF.out.below (Nat.le_refl _) hb)
      have HV3 := Aside0.mk (HV.out.kept (grown_of_below hb none) (by simp))
      have HROW3 := Aside0.mk (pw_own_below HROW.out hb)
      have HX3 := Aside0.mk (blk_below HBXX.out hb)
      have hs3 := HF3.out.siz
      clear hb kt kx
      cases hth : thereS a tick with
      | true =>
        rw [hth, if_pos rfl] at HSN
        clear hth
        have kx := blk_cell HX3.out 0
        have kv := HV3.out.cell
        gi_wp2_with (gi_at_builtin; refine wpListIn_append_own _ rfl _ _ 23 rfl W0.heap.size 3 i0 (.int .i64 0) 1 8 Try.underlying23 hi hz0 hz1 hz2 rfl (by decide) _ _ _ rfl (HROW3.out.alloc _) ⟨w3.heap.size, 0, none⟩ 1 1 [.int .i64 a.f0] rfl rfl (cell_one_new _ _ _) (by simp [Value.oneCell']) (by have := HFI.out; unfold maxLen; omega) (by have := HFI.out; omega) (by simp; omega) ?_; intro v' w4 hown' hgrow _; obtain ⟨g', cap', rfl⟩ := ownsRow_succ hown'; obtain ⟨hv1, hv2, _, hk2, _⟩ := HV3.out.appended (n₀ := w.heap.size) (by decide) (own_lower HROW3.out (by omega)) (by omega) hw1 (own_lower hown' (by omega)) hgrow; have hc1 := hv1.cell; have hf1 := hv1.frozen; have HOWN' := Aside0.mk hown'; have HGROW := Aside0.mk (grown_alloc hgrow); have HV1 := Aside0.mk hv1; have HV2 := Aside0.mk hv2; have HK2 := Aside0.mk hk2; clear hown' hgrow hv1 hv2 hk2)
        have hob : ∀ k, v.ownBlock = some k → W0.heap.size ≤ k := fun k hk => own_base HROW3.out k hk
        have HF4 := HF3.out.step (Nat.le_refl _) HGROW.out (fun k hk => ⟨by have := hob k hk; omega, by simp only [List.mem_singleton, forall_eq]; have := hob k hk; omega⟩)
        refine ⟨(keepsFrom_below HB.out).trans (HK2.out.from _), KpO.t (kpo_below (by omega) HB.out) (KpO.t (kpo_grown (by omega) HGROW.out (fun k hk => ⟨by have := hob k hk; omega, by have := hob k hk; omega⟩)) (kpo_grown (by have := HGROW.out.size; omega) (grownBy_setCell' _ _ _) (fun k hk => by cases hk; exact ⟨hw1, by omega⟩))), ⟨_, HV2.out, ?_, trivial⟩, HF4.set (Nat.le_refl _) _ _ _ hw1 (by simp only [List.mem_singleton, forall_eq]; omega)⟩
        rw [HSN.out, List.length_append, List.map_append]
        exact HOWN'.out.kept (grownBy_setCell' _ _ _) (.inr (HV1.out.not_row (by decide) HOWN'.out).symm)
      | false =>
        rw [hth, if_neg (by simp), List.append_nil] at HSN
        clear hth
        gi_wp2
        exact ⟨keepsFrom_below HB.out, kpo_below (by omega) HB.out, ⟨v, HV3.out, by rw [HSN.out]; exact HROW3.out, trivial⟩, HF3.out⟩
    case done =>
      rintro D ys W hD hys ⟨⟨v, hv, hrow, _⟩, hF⟩ hK
      have hc := hv.cell
      rw [hys] at hrow
      have hp2 := HP.out
      generalize ((ofS o l).filter (fun a => thereS a tick)).map (·.f0) = q at *
      have HP2 := Aside0.mk hp2
      have HROW := Aside0.mk hrow
      have HF := Aside0.mk hF
      have hKD := Aside0.mk hK
      obtain ⟨A', c', rfl⟩ := own_slice hrow
      clear hrow hF hv hys hK hp2
      gi_wp2
      refine ⟨by simp, .inl ⟨_, _, rfl, run_takeDeferred hKD.out, ?_⟩⟩
      exact ⟨_, results_tmp2 rfl _ _ _, _, by rw [HP2.out]; rfl, by rw [HP2.out]; refine R_of_ownI ?_; exact own_lower (ownsRow_putObj HROW.out _ hKD.out rfl) (by omega), HF.out.bel.trans (belowK_b (w := w) (Nat.le_refl _) _ D _ _ (by omega) hKD.out rfl rfl)⟩
    case stop =>
      rintro D c' pre W _ _ h _
      exact h.elim
  · have HP := Aside0.mk (show AtS l o tick = ([], askedS l o tick 0 1000000) by unfold AtS; rw [if_pos h0])
    have g0 : (askedS l o tick 0 1000000 != 0) = true := by simpa using h0
    generalize askedS l o tick 0 1000000 = q at *
    clear h0
    gi_wp2
    exact ⟨_, results_tmp2 rfl _ _ _, .slice none 0 0, by rw [HP.out]; rfl, by rw [HP.out]; exact Kd.R_nil _ _ _ _ _, HB1.out⟩
end Go.Proofs.Ytlelhmephibfjaa.T

namespace Go.Proofs.Ytlelhmephibfjaa.T
set_option linter.unusedVariables false
set_option linter.unusedSimpArgs false
open Go.RowKit Go.Shelf Go.Proofs.YtlelhmephibfjaaW.PrintWords Go.Proofs.YtlelhmephibfjaaW.PrintLast Go.Proofs.YtlelhmephibfjaaW.PrintMore
attribute [local go_sem] Oper.semAt_some

/-! ### Late -/
theorem one_formed {pre : List S25} {a : S25} (h : oneS pre a = 0) : formedS a = true := by
  unfold oneS at h
  split at h
  · cases h
  · rename_i h1; simpa using h1
theorem check_formed {l : List S25} (hc : checkS l = 0) {a : S25} (ha : a ∈ l) : formedS a = true := by
  obtain ⟨j, hj, rfl⟩ := List.mem_iff_getElem.1 ha
  exact one_formed (check_one hc j hj)
theorem formed_bd {a : S25} (h : formedS a = true) : (1 ≤ a.f0 ∧ a.f0 ≤ 1099511627776) ∧ (1 ≤ a.f1 ∧ a.f1 ≤ 4) ∧ (0 ≤ a.f2 ∧ a.f2 ≤ 1048576) ∧ (0 ≤ a.f4 ∧ a.f4 ≤ 11) ∧ (-1 ≤ a.f5 ∧ a.f5 ≤ 63) ∧ (0 ≤ a.f6 ∧ a.f6 ≤ 1000000) ∧ (a.f6 ≤ a.f7 ∧ a.f7 ≤ 1000001) := by
  rw [formedS_eq] at h
  simp only [Bool.and_eq_true] at h
  have := h.1.2
  unfold restS at this
  simp only [wi, Bool.and_eq_true, decide_eq_true_eq] at this
  omega
theorem asked_ok {l : List S25} {o n lo hi : Int} (h : askedS l o n lo hi = 0) : checkS l = 0 ∧ lo ≤ n ∧ n ≤ hi := by
  unfold askedS at h
  by_cases hc : checkS l = 0
  · rw [if_neg (by simpa using hc)] at h
    split at h
    · rename_i h2
      simp only [wi, Bool.and_eq_true, decide_eq_true_eq] at h2
      exact ⟨hc, by omega, by omega⟩
    · cases h
  · rw [if_pos hc] at h; exact absurd h hc
theorem late_bd {l : List S25} (hc : checkS l = 0) {a : S25} (ha : a ∈ l) : 0 ≤ a.f6 ∧ 0 ≤ a.f7 ∧ a.f7 ≤ 1000001 := by
  have := formed_bd (check_formed hc ha); omega
/-- the invariant of a loop that collects numbers -/
def ColI (f : List S25 → List Int) (base bout n0 : Nat) (w0 W0 : World) (keep : List (Nat × Obj)) (xs : List S25) (W : World) : Prop :=
  (∃ v, Boxed W bout 23 v ∧ W.ownsRow base 3 1 v (f xs).length ((f xs).map (Value.int .i64)) ∧ True) ∧ Fr n0 w0 W0 keep W
theorem colI_own {w0 W0 : World} {l : List S25} {wi : World} (f : List S25 → List Int) {base bout n0 B : Nat} {keep : List (Nat × Obj)} (hn : n0 ≤ w0.heap.size) (hB : n0 ≤ B) (hk : ∀ p ∈ keep, p.2.isCells = true) :
    OwnFrom B (fun (pre : List (Item wi l)) W => ColI f base bout n0 w0 W0 keep (pre.map Item.val) W) :=
  OwnFrom.and (Own.from (holdsRow_own base bout 23 3 1 (fun pre : List (Item wi l) => (f (pre.map Item.val)).length) (fun pre => (f (pre.map Item.val)).map (Value.int .i64)) (fun _ _ => True)) _) (fr_own hn hB hk)
def lateB (tick : Int) (a : S25) : Bool := ((a.f1 != 4) && decide (a.f6 < a.f7)) && decide (tick + 2 < a.f7 - 1)
def lateF (tick : Int) (xs : List S25) : List Int := (xs.filter (fun a => lateB tick a)).map (·.f0)
def LateS (l : List S25) (o tick : Int) : List Int × Int :=
  if askedS l o tick 0 1000000 ≠ 0 then ([], askedS l o tick 0 1000000) else (lateF tick (ofS o l), 0)

set_option maxRecDepth 100000 in
set_option maxHeartbeats 4000000 in
theorem late_calls (A : Option Addr) (c : Nat) (l : List S25) (o tick : Int) (w : World) (hr : Kd.C k25 w A l.length l) (hc : l.length ≤ c) (hl : l.length ≤ 1000) (hof : ∀ x ∈ l, x.f3.length ≤ 1000) :
    Calls Try.prog 31 #[.slice A l.length c, .int .i64 o, .int .i64 tick] w fun e w' => ∃ v, e = .returned (.tuple #[v, .int .i64 (LateS l o tick).2]) ∧ Kd.R (Kd.int .i64) 3 w' w.heap.size (fun _ => True) v (LateS l o tick).1 ∧ Below w.heap.size w w' := by
  have hu25 := Try.underlying25
  have HR := Aside0.mk hr
  have HOF := Aside0.mk hof
  have HASK := Aside0.mk (asked_t l o tick 0 1000000 hl hof)
  clear hr hof
  refine (callsIn_wide (n := 3)).1 ?_
  refine callsIn_of_wp_marks Try.func31 rfl trivial ?_ rfl
  simp only [Try.ntmps31, List.size_toArray, List.length_cons, List.length_nil, Nat.reduceAdd, Nat.reduceSub, Array.replicate_succ, Array.replicate_zero, List.push_toArray, List.append_toArray, List.nil_append, List.cons_append]
  gi_wp2_with fail
  refine ⟨trivial, (callsIn_wide.2 (trace_asked.calls A c l o tick 0 1000000 _ _ (Kd.C_alloc HR.out _) hc HASK.out)).mono ?_⟩
  rintro e w1 ⟨rfl, hb⟩
  have KT := Aside0.mk (blk_below (blk_new w (.cells #[.int .i64 tick] 3)) hb)
  have HB1 : Aside0 (Below w.heap.size w w1) := ⟨below_step (below_alloc (Below.refl _ _) _) hb⟩
  clear hb HASK
  by_cases h0 : askedS l o tick 0 1000000 = 0
  · have HP := Aside0.mk (show LateS l o tick = (lateF tick (ofS o l), 0) by unfold LateS; rw [if_neg (by simpa using h0)])
    have HOK := Aside0.mk (asked_ok h0)
    rw [h0]
    clear h0
    gi_wp2_with fail
    refine ⟨trivial, (callsIn_wide.2 (of_calls A l.length c o _)).mono ?_⟩
    rintro e w2 ⟨rfl, rfl⟩
    gi_wp2_with fail
    have bO : Boxed (((w1.alloc (.cells #[.slice none 0 0] 23)).alloc (.cells #[.slice A l.length c] 22)).alloc (.cells #[.int .i64 o] 3)) w1.heap.size 23 (.slice none 0 0) := ((Boxed.new w1 23 (.slice none 0 0)).alloc _).alloc _
    have bL := (Boxed.new (w1.alloc (.cells #[.slice none 0 0] 23)) 22 (.slice A l.length c)).alloc (.cells #[.int .i64 o] 3)
    have bQ := Boxed.new ((w1.alloc (.cells #[.slice none 0 0] 23)).alloc (.cells #[.slice A l.length c] 22)) 3 (.int .i64 o)
    simp only [World.size_alloc] at bL bQ
    have hw1 := HB1.out.size
    have hlt1 := blk_lt KT.out
    have HF0 : Fr w.heap.size w (((w1.alloc (.cells #[.slice none 0 0] 23)).alloc (.cells #[.slice A l.length c] 22)).alloc (.cells #[.int .i64 o] 3)) [(w.heap.size, .cells #[.int .i64 tick] 3 (0, 0))] (((w1.alloc (.cells #[.slice none 0 0] 23)).alloc (.cells #[.slice A l.length c] 22)).alloc (.cells #[.int .i64 o] 3)) :=
      ⟨below_alloc (below_alloc (below_alloc HB1.out _) _) _, Nat.le_refl _, by simp only [List.mem_singleton, forall_eq]; exact blk_alloc (blk_alloc (blk_alloc KT.out _) _) _⟩
    have hsz : (((w1.alloc (.cells #[.slice none 0 0] 23)).alloc (.cells #[.slice A l.length c] 22)).alloc (.cells #[.int .i64 o] 3)).heap.size = w1.heap.size + 3 := by simp
    replace hsz := Nat.le_of_eq hsz.symm
    obtain ⟨W0, hW0⟩ : ∃ W0, ((w1.alloc (.cells #[.slice none 0 0] 23)).alloc (.cells #[.slice A l.length c] 22)).alloc (.cells #[.int .i64 o] 3) = W0 := ⟨_, rfl⟩
    rw [hW0] at bO bL bQ HF0 hsz ⊢
    clear hW0
    obtain ⟨i0, hi, hz0, hz1, hz2⟩ := info_parts info3
    refine wpIn_rangeFunc_ownH rfl (by omega) (gf := 89) (lb := #[.pointer (some ⟨w1.heap.size + 1, 0, none⟩), .pointer (some ⟨w1.heap.size + 1 + 1, 0, none⟩)]) rfl trivial (enters_of Try.func89 (by kernel_rfl) rfl)
      (of1_stops Fence.wide 2 trivial rfl (by omega) (w1.heap.size + 1) (w1.heap.size + 1 + 1) A c l o w W0 HR.out hl HF0.bel bL.cell bQ) KpO.t (KpO.b (by omega) (by omega)) (Below.refl _ _) (fun _ => rfl)
      (fun pre W => ColI (lateF tick) W0.heap.size w1.heap.size w.heap.size w W0 [(w.heap.size, .cells #[.int .i64 tick] 3 (0, 0))] (pre.map Item.val) W)
      (fun _ _ _ => False)
      (colI_own (lateF tick) (Nat.le_refl _) (by omega) (by simp [Obj.isCells]))
      (fun _ _ _ _ _ hs _ _ => hs)
      ⟨⟨_, bO, World.ownsRow_nil _ _ _ _, trivial⟩, HF0⟩
      (fun x a' W => ∃ Bx, W0.heap.size ≤ Bx ∧ W.heap[Bx]? = some (.cells #[.int .i64 x.1.1.f0, .int .i64 x.1.1.f1, .int .i64 x.1.1.f2, .slice x.1.2.1 x.1.1.f3.length x.1.2.2, .int .i64 x.1.1.f4, .int .i64 x.1.1.f5, .int .i64 x.1.1.f6, .int .i64 x.1.1.f7, .int .i64 x.1.1.f8, .int .i64 x.1.1.f9] 25 (0, 0)) ∧
        a' = { tmps := #[.slice A l.length c, .int .i64 o, .int .i64 tick, undef, undef, .pointer (some ⟨w.heap.size, 0, none⟩), .slice none 0 0, .int .i64 0, .int .i64 0, .pointer (some ⟨w1.heap.size, 0, none⟩), .pointer (some ⟨Bx, 0, none⟩), .slice A l.length c, .int .i64 o, .int .i64 tick, .int .i64 0, .int .i64 0, .bool false, undef, .slice A l.length c, .int .i64 o, .func (.func 89) #[] #[.pointer (some ⟨w1.heap.size + 1, 0, none⟩), .pointer (some ⟨w1.heap.size + 1 + 1, 0, none⟩)], V25 x.1.1 x.1.2.1 x.1.2.2, undef, undef, undef, undef, undef, undef, undef, undef, undef, undef, undef, undef, undef, undef, undef, undef, undef, undef, undef, undef, undef, undef, undef, undef], defers := [] })
      (fun x a' _ X Y row hs hg hr => by
        obtain ⟨Bx, h1, h2, h3⟩ := hs
        exact ⟨Bx, h1, (hg.block Bx (Array.getElem?_eq_some_iff.1 h2).1 (fun e => by obtain ⟨_, q, hq, hc⟩ := hr Bx e.symm; rw [h2] at hq; cases hq; cases hc)).trans h2, h3⟩)
      ?assign ?body ?done ?stop
    case assign =>
      rintro l' pre x W K ⟨⟨v, hv, hrow, _⟩, hF⟩ hK
      have hsW := hF.siz
      simp only [encItem, V25]
      gi_wp2
      exact hK _ _ ((KeepsOthers.alloc _ _).from _) (kpo_below (by omega) (below_alloc (Below.refl _ _) _)) ⟨⟨v, hv.alloc _, hrow.alloc _, trivial⟩, hF.alloc (Nat.le_refl _) _⟩ ⟨W.heap.size, hsW, blk_new _ _, rfl⟩
    case body =>
      rintro l' pre x a' W hl' ⟨r, hrl⟩ ⟨⟨v, hv, hrow, _⟩, hF⟩ ⟨Bx, hBx, bX, rfl⟩ hlt
      obtain ⟨⟨a, A3, c3⟩, hmem, hl3, hi3⟩ := x
      simp only at bX
      have hsW := hF.siz
      have hfilt : (lateF tick (pre.map Item.val)).length ≤ 1000 := by
        unfold lateF; rw [List.length_map]; refine Nat.le_trans (List.length_filter_le _ _) ?_; rw [List.length_map]; omega
      have HSN : ∀ (hp : a ∈ l ∧ a.f3.length ≤ c3 ∧ Kd.C (Kd.int .i64) w A3 a.f3.length a.f3), lateF tick ((pre ++ [(⟨(a, A3, c3), hp⟩ : Item w l)]).map Item.val) = lateF tick (pre.map Item.val) ++ (if lateB tick a = true then [a.f0] else []) := by
        intro hp
        unfold lateF
        rw [List.map_append, List.filter_append, List.map_append]
        congr 1
        by_cases e : lateB tick a = true
        · simp only [List.map_cons, List.map_nil, Item.val, List.filter_cons, e, if_true, List.filter_nil]
        · simp only [List.map_cons, List.map_nil, Item.val, List.filter_cons, e, if_false, List.filter_nil]; rfl
      have HSN := Aside0.mk (HSN ⟨hmem, hl3, hi3⟩)
      have HF := Aside0.mk hF
      have HV := Aside0.mk hv
      have HROW := Aside0.mk hrow
      have HBXX := Aside0.mk bX
      have HI3 := Aside0.mk hi3
      have HFI := Aside0.mk hfilt
      have kt := blk_cell (hF.kept _ (List.mem_singleton.2 rfl)) 0
      have kx := blk_cell bX
      generalize lateF tick (pre.map Item.val) = q at *
      clear hF hv hrow bX hrl hfilt
      have hbd := late_bd (a := a) HOK.out.1 hmem
      have hti : 0 ≤ tick ∧ tick ≤ 1000000 := HOK.out.2
      obtain ⟨hb6, hb7, hb8⟩ := hbd
      obtain ⟨ht1, ht2⟩ := hti
      have hwr : wrap64 (a.f7 - 1) = a.f7 - 1 := w64 (a.f7 - 1) (by omega) (by omega)
      by_cases hth : lateB tick a = true
      · rw [hth, if_pos rfl] at HSN
        have hth' := hth
        unfold lateB at hth'
        simp only [Bool.and_eq_true] at hth'
        obtain ⟨⟨h4, h6⟩, h7⟩ := hth'
        clear hth
        have kv := HV.out.cell
        gi_wp2_with (gi_at_builtin; refine wpListIn_append_own _ rfl _ _ 23 rfl W0.heap.size 3 i0 (.int .i64 0) 1 8 Try.underlying23 hi hz0 hz1 hz2 rfl (by decide) _ _ _ rfl (HROW.out.alloc _) ⟨W.heap.size, 0, none⟩ 1 1 [.int .i64 a.f0] rfl rfl (cell_one_new _ _ _) (by simp [Value.oneCell']) (by have := HFI.out; unfold maxLen; omega) (by have := HFI.out; omega) (by simp; omega) ?_; intro v' w4 hown' hgrow _; obtain ⟨g', cap', rfl⟩ := ownsRow_succ hown'; obtain ⟨hv1, hv2, _, hk2, _⟩ := HV.out.appended (n₀ := w.heap.size) (by decide) (own_lower HROW.out (by omega)) (by omega) hw1 (own_lower hown' (by omega)) hgrow; have hc1 := hv1.cell; have hf1 := hv1.frozen; have HOWN' := Aside0.mk hown'; have HGROW := Aside0.mk (grown_alloc hgrow); have HV1 := Aside0.mk hv1; have HV2 := Aside0.mk hv2; have HK2 := Aside0.mk hk2; clear hown' hgrow hv1 hv2 hk2)
        have hob : ∀ k, v.ownBlock = some k → W0.heap.size ≤ k := fun k hk => own_base HROW.out k hk
        have HF4 := HF.out.step (Nat.le_refl _) HGROW.out (fun k hk => ⟨by have := hob k hk; omega, by simp only [List.mem_singleton, forall_eq]; have := hob k hk; omega⟩)
        refine ⟨HK2.out.from _, (KpO.t (kpo_grown (by omega) HGROW.out (fun k hk => ⟨by have := hob k hk; omega, by have := hob k hk; omega⟩)) (kpo_grown (by have := HGROW.out.size; omega) (grownBy_setCell' _ _ _) (fun k hk => by cases hk; exact ⟨hw1, by omega⟩))), ⟨_, HV2.out, ?_, trivial⟩, HF4.set (Nat.le_refl _) _ _ _ hw1 (by simp only [List.mem_singleton, forall_eq]; omega)⟩
        rw [HSN.out, List.length_append, List.map_append]
        exact HOWN'.out.kept (grownBy_setCell' _ _ _) (.inr (HV1.out.not_row (by decide) HOWN'.out).symm)
      · have hth' : lateB tick a = false := by simpa using hth
        rw [if_neg hth, List.append_nil] at HSN
        unfold lateB at hth'
        clear hth
        have FIN : KeepsFrom W0.heap.size W W ∧ KpO w.heap.size (w1.heap.size + 1 + 1) W W := ⟨KeepsFrom.refl _ _, kpo_below (by omega) (Below.refl _ _)⟩
        have FIN := Aside0.mk FIN
        cases h4 : (a.f1 != 4) with
        | false =>
          clear hth'
          gi_wp2
          exact ⟨FIN.out.1, FIN.out.2, ⟨v, HV.out, by rw [HSN.out]; exact HROW.out, trivial⟩, HF.out⟩
        | true =>
          cases h6 : decide (a.f6 < a.f7) with
          | false =>
            clear hth'
            gi_wp2
            exact ⟨FIN.out.1, FIN.out.2, ⟨v, HV.out, by rw [HSN.out]; exact HROW.out, trivial⟩, HF.out⟩
          | true =>
            rw [h4, h6, Bool.true_and, Bool.true_and] at hth'
            gi_wp2
            exact ⟨FIN.out.1, FIN.out.2, ⟨v, HV.out, by rw [HSN.out]; exact HROW.out, trivial⟩, HF.out⟩
    case done =>
      rintro D ys W hD hys ⟨⟨v, hv, hrow, _⟩, hF⟩ hK
      have hc := hv.cell
      rw [hys] at hrow
      have hp2 := HP.out
      generalize lateF tick (ofS o l) = q at *
      have HP2 := Aside0.mk hp2
      have HROW := Aside0.mk hrow
      have HF := Aside0.mk hF
      have hKD := Aside0.mk hK
      obtain ⟨A', c', rfl⟩ := own_slice hrow
      clear hrow hF hv hys hK hp2
      gi_wp2
      refine ⟨by simp, .inl ⟨_, _, rfl, run_takeDeferred hKD.out, ?_⟩⟩
      exact ⟨_, results_tmp2 rfl _ _ _, _, by rw [HP2.out]; rfl, by rw [HP2.out]; refine R_of_ownI ?_; exact own_lower (ownsRow_putObj HROW.out _ hKD.out rfl) (by omega), HF.out.bel.trans (belowK_b (w := w) (Nat.le_refl _) _ D _ _ (by omega) hKD.out rfl rfl)⟩
    case stop =>
      rintro D c' pre W _ _ h _
      exact h.elim
  · have HP := Aside0.mk (show LateS l o tick = ([], askedS l o tick 0 1000000) by unfold LateS; rw [if_pos h0])
    have g0 : (askedS l o tick 0 1000000 != 0) = true := by simpa using h0
    generalize askedS l o tick 0 1000000 = q at *
    clear h0
    gi_wp2
    exact ⟨_, results_tmp2 rfl _ _ _, .slice none 0 0, by rw [HP.out]; rfl, by rw [HP.out]; exact Kd.R_nil _ _ _ _ _, HB1.out⟩
end Go.Proofs.Ytlelhmephibfjaa.T

namespace Go.Proofs.Ytlelhmephibfjaa.T
set_option linter.unusedVariables false
set_option linter.unusedSimpArgs false
open Go.RowKit Go.Shelf Go.Proofs.YtlelhmephibfjaaW.PrintWords Go.Proofs.YtlelhmephibfjaaW.PrintLast Go.Proofs.YtlelhmephibfjaaW.PrintMore
attribute [local go_sem] Oper.semAt_some

/-- the invariant of a loop that keeps a number -/
def NumI (f : List S25 → Int) (bout n0 : Nat) (w0 W0 : World) (keep : List (Nat × Obj)) (xs : List S25) (W : World) : Prop := Boxed W bout 3 (.int .i64 (f xs)) ∧ Fr n0 w0 W0 keep W
theorem numI_own {w0 W0 : World} {l : List S25} {wi : World} (f : List S25 → Int) {bout n0 B : Nat} {keep : List (Nat × Obj)} (hn : n0 ≤ w0.heap.size) (hB : n0 ≤ B) (hk : ∀ p ∈ keep, p.2.isCells = true) :
    OwnFrom B (fun (pre : List (Item wi l)) W => NumI f bout n0 w0 W0 keep (pre.map Item.val) W) :=
  OwnFrom.and (Own.from (boxed_own bout 3 (fun pre : List (Item wi l) => Value.int .i64 (f (pre.map Item.val)))) _) (fr_own hn hB hk)
theorem where_bd {l : List S25} (hc : checkS l = 0) {a : S25} (ha : a ∈ l) : 0 ≤ a.f4 ∧ a.f4 ≤ 11 := by
  have := formed_bd (check_formed hc ha); omega
theorem grown_set_drew (W : World) (b : Nat) (v : Value) : W.grownBy ((W.setCell ⟨b, 0, none⟩ v).drew) (some b) :=
  ⟨rfl, rfl, rfl, (grownBy_setCell'' W b 0 v).size, fun k _ hk => Below.heap_setCell _ _ _ k (fun e => hk (by rw [e]))⟩
def orS (s h : Int) : Int := bits BinOp.or IntKind.i64 s (IntKind.i64.wrap (2 ^ h.toNat))
def whereF (tick : Int) (xs : List S25) : Int := xs.foldl (fun s a => if thereS a tick = true then orS s a.f4 else s) 0
def WhereS (l : List S25) (o tick : Int) : Int × Int :=
  if askedS l o tick 0 1000000 ≠ 0 then (0, askedS l o tick 0 1000000) else (whereF tick (ofS o l), 0)

set_option maxRecDepth 100000 in
set_option maxHeartbeats 4000000 in
theorem where_calls (A : Option Addr) (c : Nat) (l : List S25) (o tick : Int) (w : World) (hr : Kd.C k25 w A l.length l) (hc : l.length ≤ c) (hl : l.length ≤ 1000) (hof : ∀ x ∈ l, x.f3.length ≤ 1000) :
    Calls Try.prog 27 #[.slice A l.length c, .int .i64 o, .int .i64 tick] w fun e w' => e = .returned (.tuple #[.int .i64 (WhereS l o tick).1, .int .i64 (WhereS l o tick).2]) ∧ Below w.heap.size w w' := by
  have hu25 := Try.underlying25
  have HR := Aside0.mk hr
  have HOF := Aside0.mk hof
  have HASK := Aside0.mk (asked_t l o tick 0 1000000 hl hof)
  clear hr hof
  refine (callsIn_wide (n := 3)).1 ?_
  refine callsIn_of_wp_marks Try.func27 rfl trivial ?_ rfl
  simp only [Try.ntmps27, List.size_toArray, List.length_cons, List.length_nil, Nat.reduceAdd, Nat.reduceSub, Array.replicate_succ, Array.replicate_zero, List.push_toArray, List.append_toArray, List.nil_append, List.cons_append]
  gi_wp2_with fail
  refine ⟨trivial, (callsIn_wide.2 (trace_asked.calls A c l o tick 0 1000000 _ _ (Kd.C_alloc HR.out _) hc HASK.out)).mono ?_⟩
  rintro e w1 ⟨rfl, hb⟩
  have KT := Aside0.mk (blk_below (blk_new w (.cells #[.int .i64 tick] 3)) hb)
  have HB1 : Aside0 (Below w.heap.size w w1) := ⟨below_step (below_alloc (Below.refl _ _) _) hb⟩
  clear hb HASK
  by_cases h0 : askedS l o tick 0 1000000 = 0
  · have HP := Aside0.mk (show WhereS l o tick = (whereF tick (ofS o l), 0) by unfold WhereS; rw [if_neg (by simpa using h0)])
    have HOK := Aside0.mk (asked_ok h0)
    rw [h0]
    clear h0
    gi_wp2_with fail
    refine ⟨trivial, (callsIn_wide.2 (of_calls A l.length c o _)).mono ?_⟩
    rintro e w2 ⟨rfl, rfl⟩
    gi_wp2_with fail
    have bO : Boxed (((w1.alloc (.cells #[.int .i64 0] 3)).alloc (.cells #[.slice A l.length c] 22)).alloc (.cells #[.int .i64 o] 3)) w1.heap.size 3 (.int .i64 0) := ((Boxed.new w1 3 (.int .i64 0)).alloc _).alloc _
    have bL := (Boxed.new (w1.alloc (.cells #[.int .i64 0] 3)) 22 (.slice A l.length c)).alloc (.cells #[.int .i64 o] 3)
    have bQ := Boxed.new ((w1.alloc (.cells #[.int .i64 0] 3)).alloc (.cells #[.slice A l.length c] 22)) 3 (.int .i64 o)
    simp only [World.size_alloc] at bL bQ
    have hw1 := HB1.out.size
    have hlt1 := blk_lt KT.out
    have HF0 : Fr w.heap.size w (((w1.alloc (.cells #[.int .i64 0] 3)).alloc (.cells #[.slice A l.length c] 22)).alloc (.cells #[.int .i64 o] 3)) [(w.heap.size, .cells #[.int .i64 tick] 3 (0, 0))] (((w1.alloc (.cells #[.int .i64 0] 3)).alloc (.cells #[.slice A l.length c] 22)).alloc (.cells #[.int .i64 o] 3)) :=
      ⟨below_alloc (below_alloc (below_alloc HB1.out _) _) _, Nat.le_refl _, by simp only [List.mem_singleton, forall_eq]; exact blk_alloc (blk_alloc (blk_alloc KT.out _) _) _⟩
    have hsz : (((w1.alloc (.cells #[.int .i64 0] 3)).alloc (.cells #[.slice A l.length c] 22)).alloc (.cells #[.int .i64 o] 3)).heap.size = w1.heap.size + 3 := by simp
    obtain ⟨W0, hW0⟩ : ∃ W0, ((w1.alloc (.cells #[.int .i64 0] 3)).alloc (.cells #[.slice A l.length c] 22)).alloc (.cells #[.int .i64 o] 3) = W0 := ⟨_, rfl⟩
    rw [hW0] at bO bL bQ HF0 hsz ⊢
    clear hW0
    replace hsz := Nat.le_of_eq hsz.symm
    refine wpIn_rangeFunc_ownH rfl (by omega) (gf := 89) (lb := #[.pointer (some ⟨w1.heap.size + 1, 0, none⟩), .pointer (some ⟨w1.heap.size + 1 + 1, 0, none⟩)]) rfl trivial (enters_of Try.func89 (by kernel_rfl) rfl)
      (of1_stops Fence.wide 2 trivial rfl (by omega) (w1.heap.size + 1) (w1.heap.size + 1 + 1) A c l o w W0 HR.out hl HF0.bel bL.cell bQ) KpO.t (KpO.b (by omega) (by omega)) (Below.refl _ _) (fun _ => rfl)
      (fun pre W => NumI (whereF tick) w1.heap.size w.heap.size w W0 [(w.heap.size, .cells #[.int .i64 tick] 3 (0, 0))] (pre.map Item.val) W)
      (fun _ _ _ => False)
      (numI_own (whereF tick) (Nat.le_refl _) (by omega) (by simp [Obj.isCells]))
      (fun _ _ _ _ _ hs _ _ => hs)
      ⟨bO, HF0⟩
      (fun x a' W => ∃ Bx, W0.heap.size ≤ Bx ∧ W.heap[Bx]? = some (.cells #[.int .i64 x.1.1.f0, .int .i64 x.1.1.f1, .int .i64 x.1.1.f2, .slice x.1.2.1 x.1.1.f3.length x.1.2.2, .int .i64 x.1.1.f4, .int .i64 x.1.1.f5, .int .i64 x.1.1.f6, .int .i64 x.1.1.f7, .int .i64 x.1.1.f8, .int .i64 x.1.1.f9] 25 (0, 0)) ∧
        a' = { tmps := #[.slice A l.length c, .int .i64 o, .int .i64 tick, undef, undef, .pointer (some ⟨w.heap.size, 0, none⟩), .int .i64 0, .int .i64 0, .int .i64 0, .pointer (some ⟨w1.heap.size, 0, none⟩), .pointer (some ⟨Bx, 0, none⟩), .slice A l.length c, .int .i64 o, .int .i64 tick, .int .i64 0, .int .i64 0, .bool false, undef, .slice A l.length c, .int .i64 o, .func (.func 89) #[] #[.pointer (some ⟨w1.heap.size + 1, 0, none⟩), .pointer (some ⟨w1.heap.size + 1 + 1, 0, none⟩)], V25 x.1.1 x.1.2.1 x.1.2.2, undef, undef, undef, undef, undef, undef, undef, undef, undef], defers := [] })
      (fun x a' _ X Y row hs hg hr => by
        obtain ⟨Bx, h1, h2, h3⟩ := hs
        exact ⟨Bx, h1, (hg.block Bx (Array.getElem?_eq_some_iff.1 h2).1 (fun e => by obtain ⟨_, q, hq, hc⟩ := hr Bx e.symm; rw [h2] at hq; cases hq; cases hc)).trans h2, h3⟩)
      ?assign ?body ?done ?stop
    case assign =>
      rintro l' pre x W K ⟨hv, hF⟩ hK
      have hsW := hF.siz
      simp only [encItem, V25]
      gi_wp2
      exact hK _ _ ((KeepsOthers.alloc _ _).from _) (kpo_below (by omega) (below_alloc (Below.refl _ _) _)) ⟨hv.alloc _, hF.alloc (Nat.le_refl _) _⟩ ⟨W.heap.size, hsW, blk_new _ _, rfl⟩
    case body =>
      rintro l' pre x a' W hl' ⟨r, hrl⟩ ⟨hv, hF⟩ ⟨Bx, hBx, bX, rfl⟩ hlt
      obtain ⟨⟨a, A3, c3⟩, hmem, hl3, hi3⟩ := x
      simp only at bX
      have hsW := hF.siz
      have HSN : ∀ (hp : a ∈ l ∧ a.f3.length ≤ c3 ∧ Kd.C (Kd.int .i64) w A3 a.f3.length a.f3), whereF tick ((pre ++ [(⟨(a, A3, c3), hp⟩ : Item w l)]).map Item.val) = if thereS a tick = true then orS (whereF tick (pre.map Item.val)) a.f4 else whereF tick (pre.map Item.val) := by
        intro hp
        unfold whereF
        rw [List.map_append, List.foldl_append]
        rfl
      have HSN := Aside0.mk (HSN ⟨hmem, hl3, hi3⟩)
      have HF := Aside0.mk hF
      have HV := Aside0.mk hv
      have HBXX := Aside0.mk bX
      have HI3 := Aside0.mk hi3
      have kt := blk_cell (hF.kept _ (List.mem_singleton.2 rfl)) 0
      have kx := blk_cell bX
      have hbd := where_bd (a := a) HOK.out.1 hmem
      obtain ⟨hb4, hb5⟩ := hbd
      generalize whereF tick (pre.map Item.val) = q at *
      clear hF hv bX hrl
      gi_wp2_with fail
      refine ⟨trivial, (CallsIn.inRound l' (callsIn_wide.2 (trace_there.calls _ _ _ _ c3 a.f3 _ _ _ _ _ _ tick _ _ (Kd.C_below HI3.out HF.out.bel) hl3 (there_t a tick)))).mono ?_⟩
      rintro e w3 ⟨rfl, hb⟩
      have HB := Aside0.mk hb
      have HF3 := Aside0.mk (HF.out.below (Nat.le_refl _) hb)
      have HV3 := Aside0.mk (HV.out.kept (grown_of_below hb none) (by simp))
      have HX3 := Aside0.mk (blk_below HBXX.out hb)
      have hs3 := HF3.out.siz
      clear hb kt kx
      cases hth : thereS a tick with
      | true =>
        rw [hth, if_pos rfl] at HSN
        clear hth
        have kx := blk_cell HX3.out 4
        have kv := HV3.out.cell
        have fv := HV3.out.frozen
        have hmx : Try.prog.follows .mixedOrders = true := by kernel_rfl
        gi_wp2
        gi_region_with_o (fail)
        all_goals gi_wp2
        all_goals exact ⟨(keepsFrom_below HB.out).trans (((KeepsOthers.setCell _ _ _).trans (KeepsOthers.drew _)).from _), KpO.t (kpo_below (by omega) HB.out) (kpo_grown (by omega) (grown_set_drew _ _ _) (fun k hk => by cases hk; exact ⟨hw1, by omega⟩)), by rw [HSN.out]; exact HV3.out.set _, HF3.out.step (Nat.le_refl _) (grown_set_drew _ _ _) (fun k hk => by cases hk; exact ⟨hw1, by simp only [List.mem_singleton, forall_eq]; omega⟩)⟩
      | false =>
        rw [hth, if_neg (by simp)] at HSN
        clear hth
        gi_wp2
        exact ⟨keepsFrom_below HB.out, kpo_below (by omega) HB.out, by rw [HSN.out]; exact HV3.out, HF3.out⟩
    case done =>
      rintro D ys W hD hys ⟨hv, hF⟩ hK
      rw [hys] at hv
      have hc := hv.cell
      have hp2 := HP.out
      generalize whereF tick (ofS o l) = q at *
      have HP2 := Aside0.mk hp2
      have HF := Aside0.mk hF
      have hKD := Aside0.mk hK
      clear hF hv hys hK hp2
      gi_wp2
      refine ⟨by simp, .inl ⟨_, _, rfl, run_takeDeferred hKD.out, ?_⟩⟩
      exact ⟨_, results_tmp2 rfl _ _ _, by rw [HP2.out]; rfl, HF.out.bel.trans (belowK_b (w := w) (Nat.le_refl _) _ D _ _ (by omega) hKD.out rfl rfl)⟩
    case stop =>
      rintro D c' pre W _ _ h _
      exact h.elim
  · have HP := Aside0.mk (show WhereS l o tick = (0, askedS l o tick 0 1000000) by unfold WhereS; rw [if_pos h0])
    have g0 : (askedS l o tick 0 1000000 != 0) = true := by simpa using h0
    generalize askedS l o tick 0 1000000 = q at *
    clear h0
    gi_wp2
    exact ⟨_, results_tmp2 rfl _ _ _, by rw [HP.out]; rfl, HB1.out⟩

/-! ### Trail -/
def trailF (xs : List S25) : Int := xs.foldl (fun s a => if decide (a.f6 < a.f7) = true then orS s a.f4 else s) 0
def TrailS (l : List S25) (o : Int) : Int × Int :=
  if askedS l o 0 0 0 ≠ 0 then (0, askedS l o 0 0 0) else (trailF (ofS o l), 0)

set_option maxRecDepth 100000 in
set_option maxHeartbeats 4000000 in
theorem trail_calls (A : Option Addr) (c : Nat) (l : List S25) (o : Int) (w : World) (hr : Kd.C k25 w A l.length l) (hc : l.length ≤ c) (hl : l.length ≤ 1000) (hof : ∀ x ∈ l, x.f3.length ≤ 1000) :
    Calls Try.prog 29 #[.slice A l.length c, .int .i64 o] w fun e w' => e = .returned (.tuple #[.int .i64 (TrailS l o).1, .int .i64 (TrailS l o).2]) ∧ Below w.heap.size w w' := by
  have hu25 := Try.underlying25
  have HR := Aside0.mk hr
  have HOF := Aside0.mk hof
  have HASK := Aside0.mk (asked_t l o 0 0 0 hl hof)
  clear hr hof
  refine (callsIn_wide (n := 3)).1 ?_
  refine callsIn_of_wp_marks Try.func29 rfl trivial ?_ rfl
  simp only [Try.ntmps29, List.size_toArray, List.length_cons, List.length_nil, Nat.reduceAdd, Nat.reduceSub, Array.replicate_succ, Array.replicate_zero, List.push_toArray, List.append_toArray, List.nil_append, List.cons_append]
  gi_wp2_with fail
  refine ⟨trivial, (callsIn_wide.2 (trace_asked.calls A c l o 0 0 0 _ _ HR.out hc HASK.out)).mono ?_⟩
  rintro e w1 ⟨rfl, hb⟩
  have HB1 : Aside0 (Below w.heap.size w w1) := ⟨hb⟩
  clear hb HASK
  by_cases h0 : askedS l o 0 0 0 = 0
  · have HP := Aside0.mk (show TrailS l o = (trailF (ofS o l), 0) by unfold TrailS; rw [if_neg (by simpa using h0)])
    have HOK := Aside0.mk (asked_ok h0)
    rw [h0]
    clear h0
    gi_wp2_with fail
    refine ⟨trivial, (callsIn_wide.2 (of_calls A l.length c o _)).mono ?_⟩
    rintro e w2 ⟨rfl, rfl⟩
    gi_wp2_with fail
    have bO : Boxed (((w1.alloc (.cells #[.int .i64 0] 3)).alloc (.cells #[.slice A l.length c] 22)).alloc (.cells #[.int .i64 o] 3)) w1.heap.size 3 (.int .i64 0) := ((Boxed.new w1 3 (.int .i64 0)).alloc _).alloc _
    have bL := (Boxed.new (w1.alloc (.cells #[.int .i64 0] 3)) 22 (.slice A l.length c)).alloc (.cells #[.int .i64 o] 3)
    have bQ := Boxed.new ((w1.alloc (.cells #[.int .i64 0] 3)).alloc (.cells #[.slice A l.length c] 22)) 3 (.int .i64 o)
    simp only [World.size_alloc] at bL bQ
    have hw1 := HB1.out.size
    have HF0 : Fr w.heap.size w (((w1.alloc (.cells #[.int .i64 0] 3)).alloc (.cells #[.slice A l.length c] 22)).alloc (.cells #[.int .i64 o] 3)) [] (((w1.alloc (.cells #[.int .i64 0] 3)).alloc (.cells #[.slice A l.length c] 22)).alloc (.cells #[.int .i64 o] 3)) :=
      ⟨below_alloc (below_alloc (below_alloc HB1.out _) _) _, Nat.le_refl _, by simp⟩
    have hsz : (((w1.alloc (.cells #[.int .i64 0] 3)).alloc (.cells #[.slice A l.length c] 22)).alloc (.cells #[.int .i64 o] 3)).heap.size = w1.heap.size + 3 := by simp
    obtain ⟨W0, hW0⟩ : ∃ W0, ((w1.alloc (.cells #[.int .i64 0] 3)).alloc (.cells #[.slice A l.length c] 22)).alloc (.cells #[.int .i64 o] 3) = W0 := ⟨_, rfl⟩
    rw [hW0] at bO bL bQ HF0 hsz ⊢
    clear hW0
    replace hsz := Nat.le_of_eq hsz.symm
    refine wpIn_rangeFunc_ownH rfl (by omega) (gf := 89) (lb := #[.pointer (some ⟨w1.heap.size + 1, 0, none⟩), .pointer (some ⟨w1.heap.size + 1 + 1, 0, none⟩)]) rfl trivial (enters_of Try.func89 (by kernel_rfl) rfl)
      (of1_stops Fence.wide 2 trivial rfl (by omega) (w1.heap.size + 1) (w1.heap.size + 1 + 1) A c l o w W0 HR.out hl HF0.bel bL.cell bQ) KpO.t (KpO.b (by omega) (by omega)) (Below.refl _ _) (fun _ => rfl)
      (fun pre W => NumI (trailF) w1.heap.size w.heap.size w W0 [] (pre.map Item.val) W)
      (fun _ _ _ => False)
      (numI_own (trailF) (Nat.le_refl _) (by omega) (by simp))
      (fun _ _ _ _ _ hs _ _ => hs)
      ⟨bO, HF0⟩
      (fun x a' W => ∃ Bx, W0.heap.size ≤ Bx ∧ W.heap[Bx]? = some (.cells #[.int .i64 x.1.1.f0, .int .i64 x.1.1.f1, .int .i64 x.1.1.f2, .slice x.1.2.1 x.1.1.f3.length x.1.2.2, .int .i64 x.1.1.f4, .int .i64 x.1.1.f5, .int .i64 x.1.1.f6, .int .i64 x.1.1.f7, .int .i64 x.1.1.f8, .int .i64 x.1.1.f9] 25 (0, 0)) ∧
        a' = { tmps := #[.slice A l.length c, .int .i64 o, undef, undef, .int .i64 0, .int .i64 0, .int .i64 0, .pointer (some ⟨w1.heap.size, 0, none⟩), .pointer (some ⟨Bx, 0, none⟩), .slice A l.length c, .int .i64 o, .int .i64 0, .int .i64 0, .bool false, undef, .slice A l.length c, .int .i64 o, .func (.func 89) #[] #[.pointer (some ⟨w1.heap.size + 1, 0, none⟩), .pointer (some ⟨w1.heap.size + 1 + 1, 0, none⟩)], V25 x.1.1 x.1.2.1 x.1.2.2, undef, undef, undef, undef, undef, undef, undef, undef, undef, undef, undef], defers := [] })
      (fun x a' _ X Y row hs hg hr => by
        obtain ⟨Bx, h1, h2, h3⟩ := hs
        exact ⟨Bx, h1, (hg.block Bx (Array.getElem?_eq_some_iff.1 h2).1 (fun e => by obtain ⟨_, q, hq, hc⟩ := hr Bx e.symm; rw [h2] at hq; cases hq; cases hc)).trans h2, h3⟩)
      ?assign ?body ?done ?stop
    case assign =>
      rintro l' pre x W K ⟨hv, hF⟩ hK
      have hsW := hF.siz
      simp only [encItem, V25]
      gi_wp2
      exact hK _ _ ((KeepsOthers.alloc _ _).from _) (kpo_below (by omega) (below_alloc (Below.refl _ _) _)) ⟨hv.alloc _, hF.alloc (Nat.le_refl _) _⟩ ⟨W.heap.size, hsW, blk_new _ _, rfl⟩
    case body =>
      rintro l' pre x a' W hl' ⟨r, hrl⟩ ⟨hv, hF⟩ ⟨Bx, hBx, bX, rfl⟩ hlt
      obtain ⟨⟨a, A3, c3⟩, hmem, hl3, hi3⟩ := x
      simp only at bX
      have hsW := hF.siz
      have HSN : ∀ (hp : a ∈ l ∧ a.f3.length ≤ c3 ∧ Kd.C (Kd.int .i64) w A3 a.f3.length a.f3), trailF ((pre ++ [(⟨(a, A3, c3), hp⟩ : Item w l)]).map Item.val) = if decide (a.f6 < a.f7) = true then orS (trailF (pre.map Item.val)) a.f4 else trailF (pre.map Item.val) := by
        intro hp
        unfold trailF
        rw [List.map_append, List.foldl_append]
        rfl
      have HSN := Aside0.mk (HSN ⟨hmem, hl3, hi3⟩)
      have HF := Aside0.mk hF
      have HV := Aside0.mk hv
      have HBXX := Aside0.mk bX
      have HI3 := Aside0.mk hi3
      have kx := blk_cell bX
      have hbd := where_bd (a := a) HOK.out.1 hmem
      obtain ⟨hb4, hb5⟩ := hbd
      generalize trailF (pre.map Item.val) = q at *
      clear hF hv bX hrl
      cases hth : decide (a.f6 < a.f7) with
      | true =>
        rw [hth, if_pos rfl] at HSN
        have kx := blk_cell HBXX.out
        have kv := HV.out.cell
        have fv := HV.out.frozen
        have hmx : Try.prog.follows .mixedOrders = true := by kernel_rfl
        gi_wp2
        gi_region_with_o (fail)
        all_goals gi_wp2
        all_goals exact ⟨(((KeepsOthers.setCell _ _ _).trans (KeepsOthers.drew _)).from _), (kpo_grown (by omega) (grown_set_drew _ _ _) (fun k hk => by cases hk; exact ⟨hw1, by omega⟩)), by rw [HSN.out]; exact HV.out.set _, HF.out.step (Nat.le_refl _) (grown_set_drew _ _ _) (fun k hk => by cases hk; exact ⟨hw1, by simp⟩)⟩
      | false =>
        rw [hth, if_neg (by simp)] at HSN
        gi_wp2
        exact ⟨KeepsFrom.refl _ _, kpo_below (by omega) (Below.refl _ _), by rw [HSN.out]; exact HV.out, HF.out⟩
    case done =>
      rintro D ys W hD hys ⟨hv, hF⟩ hK
      rw [hys] at hv
      have hc := hv.cell
      have hp2 := HP.out
      generalize trailF (ofS o l) = q at *
      have HP2 := Aside0.mk hp2
      have HF := Aside0.mk hF
      have hKD := Aside0.mk hK
      clear hF hv hys hK hp2
      gi_wp2
      refine ⟨by simp, .inl ⟨_, _, rfl, run_takeDeferred hKD.out, ?_⟩⟩
      exact ⟨_, results_tmp2 rfl _ _ _, by rw [HP2.out]; rfl, HF.out.bel.trans (belowK_b (w := w) (Nat.le_refl _) _ D _ _ (by omega) hKD.out rfl rfl)⟩
    case stop =>
      rintro D c' pre W _ _ h _
      exact h.elim
  · have HP := Aside0.mk (show TrailS l o = (0, askedS l o 0 0 0) by unfold TrailS; rw [if_pos h0])
    have g0 : (askedS l o 0 0 0 != 0) = true := by simpa using h0
    generalize askedS l o 0 0 0 = q at *
    clear h0
    gi_wp2
    exact ⟨_, results_tmp2 rfl _ _ _, by rw [HP.out]; rfl, HB1.out⟩
end Go.Proofs.Ytlelhmephibfjaa.T
