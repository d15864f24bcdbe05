/- Texts of this claim, laid together: L7. -/
import Derived.Test.YtlelhmephibfjaaB10
import Derived.Test.YtlelhmephibfjaaB2
import Derived.BigRegion
import Derived.Deep.RegionHeld3

namespace Go.Proofs.Ytlelhmephibfjaa.T
attribute [local go_sem] Go.Proofs.YtlelhmephibfjaaW.PrintMore.max2_int Go.Proofs.YtlelhmephibfjaaW.PrintMore.min2_int Go.Proofs.YtlelhmephibfjaaW.PrintMore.max_two Go.Proofs.YtlelhmephibfjaaW.PrintMore.min_two
set_option linter.unusedVariables false
set_option linter.unusedSimpArgs false
open Go.RowKit Go.Proofs.YtlelhmephibfjaaW.PrintWords Go.Proofs.YtlelhmephibfjaaW.PrintLast Go.Proofs.YtlelhmephibfjaaW.PrintMore

def R71 (x : S71) (cs : List Value) : Prop := cs = [.int .i64 x.f0, .int .i64 x.f1]
theorem C_R71 {w : World} {A : Option Addr} {n : Nat} {xs : List S71} (h : Kd.C k71 w A n xs) : ReadsRow R71 k71.sz w A n xs := by
  obtain ⟨h1, h2, h3⟩ := h
  refine ⟨h1, h2, fun h => ?_⟩
  obtain ⟨ad, e, hc⟩ := h3 h
  refine ⟨ad, e, fun j p hp => ?_⟩
  obtain ⟨c, hs, hr, hcell⟩ := hc j p hp
  exact ⟨c, hs, k71_open hr, hcell⟩
theorem R_empty71 (w : World) (base : Nat) (h : base ≤ w.heap.size) : Kd.R k71 71 (w.alloc (.cells #[] 71)) base (fun _ => True) (.slice (some ⟨w.heap.size, 0, none⟩) 0 0) [] := by
  refine ⟨fun _ _ => trivial, [], ?_, ?_⟩
  · have h2 := World.ownsRow_lit (base := base) (e := 71) (size := k71.sz) w #[] 0 h (by decide) (by simp)
    simpa using h2
  · exact Reps.none _ _
theorem hasS_le (l : List S25) (b : Int) (ca : List S71) (h : l.length ≤ 1000) : (HasS l b ca).1.length ≤ 1000 := by
  unfold HasS
  split
  · simp
  split
  · simp
  · simp only [List.length_map]
    exact Nat.le_trans (List.length_filter_le _ _) h
set_option maxRecDepth 100000 in
set_option maxHeartbeats 8000000 in
theorem law7_walk (A : Option Addr) (c : Nat) (l : List S25) (o need less : Int) (b1 : Int) (A1 : Option Addr) (c1 : Nat) (ca : List S71) (b2 : Int) (A2 : Option Addr) (c2 : Nat) (cb : List S71) (w : World) (hr : Kd.C k25 w A l.length l) (hc : l.length ≤ c)
    (hca : Kd.C k71 w A1 ca.length ca) (hc1 : ca.length ≤ c1) (hcb : Kd.C k71 w A2 cb.length cb) (hc2 : cb.length ≤ c2) :
    Calls Try.prog 7 #[.slice A l.length c, .agg #[.int .i64 o, .int .i64 need, .int .i64 less], .agg #[.int .i64 b1, .slice A1 ca.length c1, .int .i64 b2, .slice A2 cb.length c2]] w fun e w' => e = .returned (.bool true) ∧ Below w.heap.size w w' := by
  have hu25 := Try.underlying25
  have hu48 := Try.underlying48
  have hu71 := Try.underlying71
  have hu26 := Try.underlying26
  have hu73 := Try.underlying73
  have HL := Aside0.mk hr
  have HA := Aside0.mk hca
  have HB2 := Aside0.mk hcb
  clear hr hca hcb
  go_enter Try.func7, Try.ntmps7
  go_wp2_with fail
  have k4 := blk_cell (blk_alloc (blk_new w (.cells #[.int .i64 o, .int .i64 need, .int .i64 less] 26)) (.cells #[.int .i64 b1, .slice A1 ca.length c1, .int .i64 b2, .slice A2 cb.length c2] 73))
  go_quiet (fail)
  have K5 := Aside0.mk (blk_drewN (blk_new (w.alloc (.cells #[.int .i64 o, .int .i64 need, .int .i64 less] 26)) (.cells #[.int .i64 b1, .slice A1 ca.length c1, .int .i64 b2, .slice A2 cb.length c2] 73)) nq)
  have HB : Aside0 (Below w.heap.size w (((w.alloc (.cells #[.int .i64 o, .int .i64 need, .int .i64 less] 26)).alloc (.cells #[.int .i64 b1, .slice A1 ca.length c1, .int .i64 b2, .slice A2 cb.length c2] 73)).drewN nq)) := ⟨pw_below_drewN (below_alloc (below_alloc (Below.refl _ _) _) _) _⟩
  rw [World.size_alloc] at K5
  clear k4
  go_wp2_with fail
  generalize (((w.alloc (.cells #[.int .i64 o, .int .i64 need, .int .i64 less] 26)).alloc (.cells #[.int .i64 b1, .slice A1 ca.length c1, .int .i64 b2, .slice A2 cb.length c2] 73)).drewN nq) = w0 at *
  have k5 := blk_cell K5.out
  have k5a := fun o => blk_cell (blk_alloc K5.out o)
  have k5b := fun o o' => blk_cell (blk_alloc (blk_alloc K5.out o) o')
  go_cut [10, 11] (fun v10 v11 wc => ∃ g1 g2, v10 = .pointer (some ⟨g1, 0, none⟩) ∧ v11 = .pointer (some ⟨g2, 0, none⟩) ∧ Aside0 (wc.heap[g1]? = some (.cells #[.int .i64 b1, .slice A1 ca.length c1] 48 (0, 0))) ∧ Aside0 (wc.heap[g2]? = some (.cells #[.int .i64 b2, .slice A2 cb.length c2] 48 (0, 0))) ∧ Aside0 (Below w0.heap.size w0 wc))
  case first =>
    go_region
    all_goals go_wp2_with fail
    all_goals go_meet
    all_goals (case rel => first
      | exact ⟨_, _, rfl, rfl, ⟨blk_drew (blk_alloc (blk_new _ _) _)⟩, ⟨by rw [← World.size_alloc w0 (.cells #[.int .i64 b1, .slice A1 ca.length c1] 48)]; exact blk_drew (blk_new _ _)⟩, ⟨below_drew (below_alloc (below_alloc (Below.refl _ _) _) _)⟩⟩
      | exact ⟨_, _, rfl, rfl, ⟨by rw [← World.size_alloc w0 (.cells #[.int .i64 b2, .slice A2 cb.length c2] 48)]; exact blk_drew (blk_new _ _)⟩, ⟨blk_drew (blk_alloc (blk_new _ _) _)⟩, ⟨below_drew (below_alloc (below_alloc (Below.refl _ _) _) _)⟩⟩)
  case rest =>
  obtain ⟨g1, g2, rfl, rfl, K1, K2, HBc⟩ := hcut
  replace HB := Aside0.mk (below_step HB.out HBc.out)
  clear K5 k5 k5a k5b HBc
  replace HL := Aside0.mk (Kd.C_below HL.out HB.out)
  replace HA := Aside0.mk (Kd.C_below HA.out HB.out)
  replace HB2 := Aside0.mk (Kd.C_below HB2.out HB.out)
  have k1 := blk_cell K1.out
  have k2 := blk_cell K2.out
  obtain ⟨kf, fr, hf, hfew⟩ := few_t l 30
  have HF := Aside0.mk hf
  go_wp2_with fail
  refine (quietusref38_Few.calls kf A c l 30 fr _ HL.out hc HF.out).mono ?_
  clear k1 k2 hf
  rintro e w1 ⟨rfl, hb⟩
  have hb := hb.below
  replace HB := Aside0.mk (below_step HB.out hb)
  replace K1 := Aside0.mk (blk_below K1.out hb)
  replace K2 := Aside0.mk (blk_below K2.out hb)
  replace HL := Aside0.mk (Kd.C_below HL.out hb)
  replace HA := Aside0.mk (Kd.C_below HA.out hb)
  replace HB2 := Aside0.mk (Kd.C_below HB2.out hb)
  clear hb HF
  cases fr with
  | false =>
    go_wp2_with fail
    refine (sanity_calls _).mono ?_
    rintro e ws ⟨rfl, hbs⟩
    have HBS : Aside0 (Below w.heap.size w ws) := ⟨below_step HB.out hbs⟩
    clear hbs
    go_wp2
    go_ret
    exact ⟨rfl, HBS.out⟩
  | true =>
  obtain ⟨hl, hof20⟩ := hfew rfl
  have hof : ∀ x ∈ l, x.f3.length ≤ 1000 := fun x hx => Nat.le_trans (hof20 x hx) (by decide)
  have HOF := Aside0.mk hof
  clear hfew hof20
  obtain ⟨kc, hkc⟩ := (check_r l (by omega) hof).rounds
  have HK := Aside0.mk hkc
  clear hof hkc
  go_wp2_with fail
  refine (quietusref38_Check.calls kc A c l _ w1 HL.out hc HK.out).mono ?_
  rintro e w2 ⟨rfl, hb⟩
  replace HB := Aside0.mk (below_step HB.out hb)
  replace K1 := Aside0.mk (blk_below K1.out hb)
  replace K2 := Aside0.mk (blk_below K2.out hb)
  replace HL := Aside0.mk (Kd.C_below HL.out hb)
  replace HA := Aside0.mk (Kd.C_below HA.out hb)
  replace HB2 := Aside0.mk (Kd.C_below HB2.out hb)
  clear hb HK
  by_cases hk0 : checkS l = 0
  case neg =>
    have g0 : (checkS l != 0) = true := by simpa using hk0
    generalize checkS l = q at *
    clear hk0
    go_wp2_with fail
    refine (sanity_calls _).mono ?_
    rintro e ws ⟨rfl, hbs⟩
    have HBS : Aside0 (Below w.heap.size w ws) := ⟨below_step HB.out hbs⟩
    clear hbs
    go_wp2
    go_ret
    exact ⟨rfl, HBS.out⟩
  rw [hk0]
  have HK0 := Aside0.mk hk0
  clear hk0
  have k1 := blk_cell K1.out
  have k2 := blk_cell K2.out
  by_cases hcl : ca.length ≤ 10
  case neg =>
    have g0 : decide ((10 : Int) < ca.length) = true := by simp; omega
    clear hcl
    go_wp2_with fail
    refine (sanity_calls _).mono ?_
    rintro e ws ⟨rfl, hbs⟩
    have HBS : Aside0 (Below w.heap.size w ws) := ⟨below_step HB.out hbs⟩
    clear hbs
    go_wp2
    go_ret
    exact ⟨rfl, HBS.out⟩
  have g0 : decide ((10 : Int) < ca.length) = false := by simp; omega
  by_cases hcm : cb.length ≤ 10
  case neg =>
    have g0 : decide ((10 : Int) < cb.length) = true := by simp; omega
    clear hcl hcm
    go_wp2_with fail
    refine (sanity_calls _).mono ?_
    rintro e ws ⟨rfl, hbs⟩
    have HBS : Aside0 (Below w.heap.size w ws) := ⟨below_step HB.out hbs⟩
    clear hbs
    go_wp2
    go_ret
    exact ⟨rfl, HBS.out⟩
  have g1' : decide ((10 : Int) < cb.length) = false := by simp; omega
  go_wp2_with fail
  clear g0 g1'
  have k10 := k1 0
  have k11 := k1 1
  have k20 := k2 0
  have k21 := k2 1
  clear k1 k2
  have SB : ∀ w', Below w2.heap.size w2 w' → (w'.cell? ⟨g1, 0, none⟩ = some (.int .i64 b1) ∧ w'.cell? ⟨g1, 1, none⟩ = some (.slice A1 ca.length c1) ∧ w'.cell? ⟨g2, 0, none⟩ = some (.int .i64 b2) ∧ w'.cell? ⟨g2, 1, none⟩ = some (.slice A2 cb.length c2)) := fun w' hb => ⟨keep_cell hb k10, keep_cell hb k11, keep_cell hb k20, keep_cell hb k21⟩
  clear k10 k11 k20 k21
  have HR := Below.refl w2.heap.size w2
  go_cut [12] (fun v12 wc => ∃ g3 A3 c3, v12 = .pointer (some ⟨g3, 0, none⟩) ∧ (ca ++ cb).length ≤ c3 ∧ Aside0 (wc.heap[g3]? = some (.cells #[.int .i64 (bits .or .i64 b1 b2), .slice A3 (ca ++ cb).length c3] 48 (0, 0))) ∧ Aside0 (Kd.C k71 wc A3 (ca ++ cb).length (ca ++ cb)) ∧ Aside0 (Below w2.heap.size w2 wc))
  case first =>
    go_region_held3 (fun w' => w'.cell? ⟨g1, 0, none⟩ = some (.int .i64 b1) ∧ w'.cell? ⟨g1, 1, none⟩ = some (.slice A1 ca.length c1) ∧ w'.cell? ⟨g2, 0, none⟩ = some (.int .i64 b2) ∧ w'.cell? ⟨g2, 1, none⟩ = some (.slice A2 cb.length c2))
      ((refine SB _ ?_; repeat (first | with_reducible assumption | with_reducible refine below_alloc ?_ _ | with_reducible refine below_drew ?_ | refine below_set ?_ (by first | exact Nat.le_refl _ | exact Nat.le_succ _ | exact below_size (by with_reducible assumption) | omega))))
      (first
        | (refine Kd.R_append_rows_step k71 (Rr := R71) (w0 := w2) w2.heap.size (by rfl) (.tmp 63) (.tmp 65) 46 71 (.agg #[.int .i64 0, .int .i64 0]) 16 rfl Try.underlying46 info71 rfl (by decide) (by decide) (.slice (some ⟨_, 0, none⟩) 0 0) [] ca A1 ca.length c1 (fun _ => True) (fun _ => False) rfl rfl ?hO ?hR (fun x cs h => by rw [show cs = _ from h]; exact k71_mkM _ _ _ x) (fun _ hk => False.elim hk) (fun _ _ => trivial) ?hB ?hb (by simp only [List.length_nil]; omega) ?_; (case hO => (repeat (first | (have h := R_empty71 (w2.alloc (.cells #[.int .i64 0, .slice none 0 0] 48)) w2.heap.size (below_size (below_alloc (Below.refl _ _) _)); rw [World.size_alloc] at h; with_reducible exact h) | with_reducible exact R_empty71 _ _ (below_size (by (repeat (first | with_reducible assumption | with_reducible refine below_alloc ?_ _ | with_reducible refine below_drew ?_)))) | with_reducible apply Kd.R_alloc | with_reducible apply Kd.R_drew))); (case hR => (refine C_R71 ?_; (repeat (first | with_reducible exact HA.out | with_reducible apply Kd.C_alloc | with_reducible apply Kd.C_drew)))); (case hB => (repeat (first | with_reducible assumption | with_reducible refine below_alloc ?_ _ | with_reducible refine below_drew ?_))); (case hb => exact below_size (by (repeat (first | with_reducible assumption | with_reducible refine below_alloc ?_ _ | with_reducible refine below_drew ?_)))); intro v66 w66 hR66 hb66 hg66 hat66; rw [List.nil_append] at hR66; obtain ⟨A66, c66, e66⟩ := Kd.R_slice hR66; subst e66; (try (first | have kn66 := blk_grown (blk_drew (blk_alloc (blk_new w2 (.cells #[.int .i64 0, .slice none 0 0] 48)) (.cells #[] 71))) hg66 (by simp [Value.ownBlock]) | have kn66 : w66.heap[w2.heap.size + 1]? = some (.cells #[.int .i64 0, .slice none 0 0] 48 (0, 0)) := blk_grown (by rw [← World.size_alloc w2 (.cells #[] 71)]; exact blk_drew (blk_new _ _)) hg66 (by simp [Value.ownBlock]))); (try have kc66 := blk_cell kn66); (try have kf66 := blk_frozen kn66))
        | (refine Kd.R_append_rows_step k71 (Rr := R71) (w0 := w2) w2.heap.size (by rfl) (.tmp 66) (.tmp 68) 46 71 (.agg #[.int .i64 0, .int .i64 0]) 16 rfl Try.underlying46 info71 rfl (by decide) (by decide) (.slice _ _ _) ca cb A2 cb.length c2 (fun _ => True) (fun _ => False) rfl rfl ?hO ?hR (fun x cs h => by rw [show cs = _ from h]; exact k71_mkM _ _ _ x) (fun _ hk => False.elim hk) (fun _ _ => trivial) ?hB ?hb (by omega) ?_; (case hO => (repeat (first | with_reducible exact hR66 | with_reducible apply Kd.R_alloc | with_reducible apply Kd.R_drew))); (case hR => (refine C_R71 ?_; (repeat (first | with_reducible exact Kd.C_below HB2.out hb66 | with_reducible apply Kd.C_alloc | with_reducible apply Kd.C_drew)))); (case hB => (repeat (first | with_reducible assumption | with_reducible refine below_alloc ?_ _ | with_reducible refine below_drew ?_))); (case hb => exact below_size (by (repeat (first | with_reducible assumption | with_reducible refine below_alloc ?_ _ | with_reducible refine below_drew ?_)))); intro v69 w69 hR69 hb69 hg69 hat69; obtain ⟨A69, c69, e69⟩ := Kd.R_slice hR69; subst e69; (try (first | have kn69 := blk_grown kn66 hg69 (by rcases hat66 with h | ⟨b, h, hb⟩ <;> rw [h] <;> first | (simp [Value.ownBlock]; done) | (simp [Value.ownBlock]; simp at hb; omega)) | have kn69 := blk_grown (blk_drew kn66) hg69 (by rcases hat66 with h | ⟨b, h, hb⟩ <;> rw [h] <;> first | (simp [Value.ownBlock]; done) | (simp [Value.ownBlock]; simp at hb; omega)) | have kn69 := blk_grown (blk_drew (blk_new w66 (.cells #[.int .i64 0, .slice none 0 0] 48))) hg69 (fun e => absurd (Kd.R_lt hR66 _ e.symm) (Nat.lt_irrefl _)) | have kn69 := blk_grown (blk_new w66 (.cells #[.int .i64 0, .slice none 0 0] 48)) hg69 (fun e => absurd (Kd.R_lt hR66 _ e.symm) (Nat.lt_irrefl _)))); (try have kc69 := blk_cell kn69); (try have kf69 := blk_frozen kn69)))
    all_goals (go_wp2_with fail; go_meet)
    all_goals (case rel => first
      | exact ⟨_, A69, c69, rfl, (Kd.R_reads' hR69).2.1, ⟨by rw [List.length_append]; exact blk_new _ _⟩, ⟨Kd.C_alloc (Kd.R_reads' hR69).2.2 _⟩, ⟨below_alloc hb69 _⟩⟩
      | exact ⟨_, A69, c69, rfl, (Kd.R_reads' hR69).2.1, ⟨by rw [List.length_append]; exact blk_put (cs := #[.int .i64 (bits .or .i64 b1 b2), .slice none 0 0]) (blk_put (cs := #[.int .i64 0, .slice none 0 0]) kn69 0 _ rfl) 1 _ rfl⟩,
          ⟨(Kd.R_reads' (Kd.R_far (Kd.R_far (Kd.R_types hR69 kn69 (by decide)) (fun _ hk => hk.2) _) (fun _ hk => hk.2) _)).2.2⟩, ⟨below_set (below_set hb69 (by first | exact Nat.le_refl _ | exact Nat.le_succ _ | exact below_size hb66)) (by first | exact Nat.le_refl _ | exact Nat.le_succ _ | exact below_size hb66)⟩⟩)
  case rest =>
  obtain ⟨g3, A3, c3, rfl, hc3, K3, HAB, HBc⟩ := hcut
  replace HB := Aside0.mk (below_step HB.out HBc.out)
  replace K1 := Aside0.mk (blk_below K1.out HBc.out)
  replace HL := Aside0.mk (Kd.C_below HL.out HBc.out)
  replace HA := Aside0.mk (Kd.C_below HA.out HBc.out)
  clear K2 HB2 HBc SB HR HK0
  have hcab : (ca ++ cb).length ≤ 20 := by rw [List.length_append]; omega
  obtain ⟨kh1, hh1⟩ := (has_t l b1 ca (by omega) HOF.out (by omega)).rounds
  obtain ⟨kh2, hh2⟩ := (has_t l (bits .or .i64 b1 b2) (ca ++ cb) (by omega) HOF.out (by omega)).rounds
  have HH1 := Aside0.mk hh1
  have HH2 := Aside0.mk hh2
  have F1 := Aside0.mk (has_more (l := l) (bad := b1) (bb := b2) (ca := ca) (cb := cb))
  have F2 := Aside0.mk (fun m (h : m ≤ need) => told_more (l := l) (o := o) (bad := b1) (bb := b2) (ca := ca) (cb := cb) (need := need) (m := m) h)
  have F3 : Aside0 (b1 = 0 → (ToldS l o need b1 ca).2 = 0 → (ToldS l o need b1 ca).1 = true → ∃ c ∈ ca, (AtS l o c.f1).2 = 0 ∧ (AtS l o c.f1).1 ≠ []) := ⟨fun h => by subst h; exact told_cap⟩
  clear hh1 hh2
  have L1 : (HasS l b1 ca).1.length ≤ 1000 := hasS_le l b1 ca (by omega)
  have L2 : (HasS l (bits .or .i64 b1 b2) (ca ++ cb)).1.length ≤ 1000 := hasS_le l _ _ (by omega)
  generalize ca ++ cb = cab at *
  generalize bits .or .i64 b1 b2 = bb at *
  have k1 := blk_cell K1.out
  go_wp2_with fail
  refine (trace_Has.calls kh1 A c l b1 A1 c1 ca (HasS l b1 ca).1 (HasS l b1 ca).2 _ HL.out hc HA.out hc1 HH1.out).mono ?_
  clear k1
  rintro e w3 ⟨v, rfl, hR, hb⟩
  obtain ⟨A13, c13, rfl, h13, hC13⟩ := Kd.R_reads hR
  have H13 := Aside0.mk hC13
  replace HB := Aside0.mk (below_step HB.out hb)
  replace K1 := Aside0.mk (blk_below K1.out hb)
  replace K3 := Aside0.mk (blk_below K3.out hb)
  replace HL := Aside0.mk (Kd.C_below HL.out hb)
  replace HA := Aside0.mk (Kd.C_below HA.out hb)
  replace HAB := Aside0.mk (Kd.C_below HAB.out hb)
  clear hb hR hC13 HH1
  have k3 := blk_cell K3.out
  go_wp2_with fail
  refine (trace_Has.calls kh2 A c l bb A3 c3 cab (HasS l bb cab).1 (HasS l bb cab).2 _ HL.out hc HAB.out hc3 HH2.out).mono ?_
  clear k3
  rintro e w4 ⟨v, rfl, hR, hb⟩
  obtain ⟨A15, c15, rfl, h15, hC15⟩ := Kd.R_reads hR
  have H15 := Aside0.mk hC15
  replace HB := Aside0.mk (below_step HB.out hb)
  replace K1 := Aside0.mk (blk_below K1.out hb)
  replace K3 := Aside0.mk (blk_below K3.out hb)
  replace HL := Aside0.mk (Kd.C_below HL.out hb)
  replace HA := Aside0.mk (Kd.C_below HA.out hb)
  replace HAB := Aside0.mk (Kd.C_below HAB.out hb)
  replace H13 := Aside0.mk (Kd.C_below H13.out hb)
  clear hb hR hC15 HH2
  have k1 := blk_cell K1.out
  go_wp2_with fail
  refine (told_calls A c l o need b1 A1 c1 ca _ HL.out hc (by omega) HOF.out HA.out (by omega)).mono ?_
  clear k1
  rintro e w5 ⟨rfl, hb⟩
  replace HB := Aside0.mk (below_step HB.out hb)
  replace K1 := Aside0.mk (blk_below K1.out hb)
  replace K3 := Aside0.mk (blk_below K3.out hb)
  replace HL := Aside0.mk (Kd.C_below HL.out hb)
  replace HA := Aside0.mk (Kd.C_below HA.out hb)
  replace HAB := Aside0.mk (Kd.C_below HAB.out hb)
  replace H13 := Aside0.mk (Kd.C_below H13.out hb)
  replace H15 := Aside0.mk (Kd.C_below H15.out hb)
  clear hb
  have k3 := blk_cell K3.out
  have hmin : Aside0 (∀ m, m ≤ need → (ToldS l o need b1 ca).2 = 0 → (ToldS l o m bb cab).2 = 0 → (ToldS l o need b1 ca).1 = true → (ToldS l o m bb cab).1 = true) := F2
  go_upto_region 9 with (fail)
  go_cut [19, 20] (fun v19 v20 wc => ∃ m, m ≤ need ∧ v19 = .bool (ToldS l o m bb cab).1 ∧ v20 = .int .i64 (ToldS l o m bb cab).2 ∧ Aside0 (Below w5.heap.size w5 wc))
  case first =>
    by_cases hnl : need ≤ less
    · go_wp2_with fail
      refine (told_calls A c l o need bb A3 c3 cab _ HL.out hc (by omega) HOF.out HAB.out (by omega)).mono ?_
      rintro e w6 ⟨rfl, hb⟩
      have hb := Aside0.mk hb
      go_wp2_with fail
      go_meet
      case rel => exact ⟨need, Int.le_refl _, rfl, rfl, hb⟩
    · go_wp2_with fail
      refine (told_calls A c l o less bb A3 c3 cab _ HL.out hc (by omega) HOF.out HAB.out (by omega)).mono ?_
      rintro e w6 ⟨rfl, hb⟩
      have hb := Aside0.mk hb
      go_wp2_with fail
      go_meet
      case rel => exact ⟨less, by omega, rfl, rfl, hb⟩
  case rest =>
  obtain ⟨m, hm, rfl, rfl, hb⟩ := hcut
  have w6 := 0
  clear w6
  replace hb := hb.out
  replace HB := Aside0.mk (below_step HB.out hb)
  replace K1 := Aside0.mk (blk_below K1.out hb)
  replace HL := Aside0.mk (Kd.C_below HL.out hb)
  replace HA := Aside0.mk (Kd.C_below HA.out hb)
  replace H13 := Aside0.mk (Kd.C_below H13.out hb)
  replace H15 := Aside0.mk (Kd.C_below H15.out hb)
  replace F2 := Aside0.mk (F2.out m hm)
  clear hb K3 HAB k3 hmin
  obtain ⟨w6, rfl⟩ : ∃ w6 : World, w6 = wc := ⟨_, rfl⟩
  generalize HasS l b1 ca = X1 at *
  generalize HasS l bb cab = X2 at *
  generalize ToldS l o need b1 ca = T1 at *
  generalize ToldS l o m bb cab = T2 at *
  obtain ⟨x, xe⟩ := X1
  obtain ⟨y, ye⟩ := X2
  obtain ⟨t1, te1⟩ := T1
  obtain ⟨t2, te2⟩ := T2
  dsimp only at F1 F2 F3 H13 H15 L1 L2 h13 h15
  go_upto_region 10 with (fail)
  go_cut [106] (fun v wc => v = .bool (decide (xe = 0 ∧ ye = 0)) ∧ wc = w6)
  case first =>
    by_cases h1 : xe = 0
    · have g1' : (xe == 0) = true := by simpa using h1
      by_cases h2 : ye = 0
      · have g2' : (ye == 0) = true := by simpa using h2
        have hd := Aside0.mk (decide_eq_true (p := xe = 0 ∧ ye = 0) ⟨h1, h2⟩)
        clear h1 h2
        go_wp2_with fail
        go_meet
        case rel => exact ⟨congrArg Value.bool hd.out.symm, rfl⟩
      · have g2' : (ye == 0) = false := by simpa using h2
        have hd := Aside0.mk (decide_eq_false (p := xe = 0 ∧ ye = 0) (fun h => h2 h.2))
        clear h1 h2
        go_wp2_with fail
        go_meet
        case rel => exact ⟨congrArg Value.bool hd.out.symm, rfl⟩
    · have g1' : (xe == 0) = false := by simpa using h1
      have hd := Aside0.mk (decide_eq_false (p := xe = 0 ∧ ye = 0) (fun h => h1 h.1))
      clear h1
      go_wp2_with fail
      go_meet
      case rel => exact ⟨congrArg Value.bool hd.out.symm, rfl⟩
  case rest =>
  obtain ⟨rfl, rfl⟩ := hcut
  obtain ⟨w6, rfl⟩ : ∃ w6 : World, w6 = wc := ⟨_, rfl⟩
  go_upto_if 106 with (fail)
  go_cut [] (fun wd => Aside0 (Below w6.heap.size w6 wd))
  case first =>
    by_cases h1 : xe = 0 ∧ ye = 0
    · have hd : decide (xe = 0 ∧ ye = 0) = true := decide_eq_true h1
      rw [hd]
      have FX := Aside0.mk (F1.out h1.1 h1.2)
      clear h1 hd F1 F2 F3 K1 HL HA HOF
      go_wp2
      go_loopw [109] (fun v wr => ∃ j : Nat, v = .int .i64 j ∧ j ≤ x.length ∧ Aside0 (Below w6.heap.size w6 wr)) (fun v _ => x.length - (intOf v).toNat)
      case atStart => exact ⟨0, rfl, by omega, ⟨Below.refl _ _⟩⟩
      case round =>
        obtain ⟨j, rfl, hj, HB2⟩ := hrel
        by_cases hlt : j < x.length
        · obtain ⟨ad, e1, x0⟩ := Kd.at_int (Kd.C_below H13.out HB2.out) (j : Int) (by omega) (by omega)
          cases e1
          have hin := FX.out x[j] (List.getElem_mem hlt)
          rw [rd_get x j hlt, Int.toNat_natCast] at x0
          generalize x[j] = id at *
          obtain ⟨kh, hkh⟩ := (holds_l y id (by omega)).rounds
          rw [decide_eq_true hin] at hkh
          have HKH := Aside0.mk hkh
          clear hkh hin
          go_wp2_with fail
          refine (quietuslaw38_holds.calls kh A15 c15 y id true _ (Kd.C_below H15.out HB2.out) h15 HKH.out).mono ?_
          rintro e w7 ⟨rfl, hb⟩
          have HB3 := Aside0.mk (below_step HB2.out hb.below)
          clear x0 hb
          go_wp2
          go_roundw
          case rel => exact ⟨j + 1, by go_num, by omega, HB3⟩
          case measure => simp [intOf]; omega
        · obtain rfl : j = x.length := by omega
          go_wp2
          go_meet
          case rel => exact HB2
    · have hd : decide (xe = 0 ∧ ye = 0) = false := decide_eq_false h1
      rw [hd]
      clear h1 hd F1 F2 F3 K1 HL HA HOF
      go_wp2
      go_meet
      case rel => exact ⟨Below.refl _ _⟩
  case rest =>
  replace hcut := hcut.out
  replace HB := Aside0.mk (below_step HB.out hcut)
  replace K1 := Aside0.mk (blk_below K1.out hcut)
  replace HL := Aside0.mk (Kd.C_below HL.out hcut)
  replace HA := Aside0.mk (Kd.C_below HA.out hcut)
  clear hcut H13 H15 F1
  obtain ⟨w7, rfl⟩ : ∃ w7 : World, w7 = wc := ⟨_, rfl⟩
  have k10 := blk_cell K1.out 0
  have k11 := blk_cell K1.out 1
  by_cases h1 : te1 = 0
  case neg =>
    have g1' : (te1 == 0) = false := by simpa using h1
    have g2' : (te1 != 0) = true := by simpa using h1
    clear h1 F2 F3
    go_wp2_with fail
    refine (sanity_calls _).mono ?_
    rintro e ws ⟨rfl, hbs⟩
    have HBS := Aside0.mk (below_step HB.out hbs)
    clear hbs
    go_wp2
    go_ret
    exact ⟨rfl, HBS.out⟩
  have g1' : (te1 == 0) = true := by simpa using h1
  have g2' : (te1 != 0) = false := by simpa using h1
  cases t1 with
  | false =>
    clear h1 F2 F3
    by_cases h2 : te2 = 0
    · have g3' : (te2 == 0) = true := by simpa using h2
      clear h2
      go_wp2_with fail
      refine (sanity_calls _).mono ?_
      rintro e ws ⟨rfl, hbs⟩
      have HBS := Aside0.mk (below_step HB.out hbs)
      clear hbs
      go_wp2
      go_ret
      exact ⟨rfl, HBS.out⟩
    · have g3' : (te2 == 0) = false := by simpa using h2
      clear h2
      go_wp2_with fail
      refine (sanity_calls _).mono ?_
      rintro e ws ⟨rfl, hbs⟩
      have HBS := Aside0.mk (below_step HB.out hbs)
      clear hbs
      go_wp2
      go_ret
      exact ⟨rfl, HBS.out⟩
  | true =>
  go_upto_region 17 with (fail)
  go_cut [130] (fun v wc => v = .bool false ∧ wc = w7)
  case first =>
    by_cases h2 : te2 = 0
    · have g3' : (te2 == 0) = true := by simpa using h2
      obtain rfl := F2.out h1 h2 rfl
      clear h1 h2 F2 F3
      go_wp2_with fail
      go_meet
      case rel => exact ⟨rfl, rfl⟩
    · have g3' : (te2 == 0) = false := by simpa using h2
      clear h1 h2 F2 F3
      go_wp2_with fail
      go_meet
      case rel => exact ⟨rfl, rfl⟩
  case rest =>
  obtain ⟨rfl, rfl⟩ := hcut
  obtain ⟨w7, rfl⟩ : ∃ w7 : World, w7 = wc := ⟨_, rfl⟩
  clear F2
  by_cases hb0 : b1 = 0
  case neg =>
    have g3' : (b1 != 0) = true := by simpa using hb0
    clear h1 hb0 F3
    go_wp2_with fail
    refine (sanity_calls _).mono ?_
    rintro e ws ⟨rfl, hbs⟩
    have HBS := Aside0.mk (below_step HB.out hbs)
    clear hbs
    go_wp2
    go_ret
    exact ⟨rfl, HBS.out⟩
  have g3' : (b1 != 0) = false := by simpa using hb0
  have FE := Aside0.mk (F3.out hb0 h1 rfl)
  clear h1 hb0 F3
  go_wp2_with fail
  clear k10 k11 K1
  go_loopw [146] (fun v wr => ∃ j : Nat, v = .int .i64 j ∧ j ≤ ca.length ∧ Aside0 (∀ x ∈ ca.take j, ¬ ((AtS l o x.f1).2 = 0 ∧ (AtS l o x.f1).1 ≠ [])) ∧ Aside0 (Below w7.heap.size w7 wr)) (fun v _ => ca.length - (intOf v).toNat)
  case atStart => exact ⟨0, rfl, by omega, ⟨by simp⟩, ⟨Below.refl _ _⟩⟩
  case round =>
    obtain ⟨j, rfl, hj, HT, HB3⟩ := hrel
    by_cases hlt : j < ca.length
    · obtain ⟨ad, e1, x0, x1⟩ := at_T71 (Kd.C_below HA.out HB3.out) (j : Int) (by omega) (by omega)
      subst e1
      have ht : ca.take (j + 1) = ca.take j ++ [ca[j]] := by rw [List.take_succ_eq_append_getElem hlt]
      rw [rd71_get ca j hlt, Int.toNat_natCast] at x0 x1
      have HT2 : ¬ ((AtS l o ca[j].f1).2 = 0 ∧ (AtS l o ca[j].f1).1 ≠ []) → ∀ x ∈ ca.take (j + 1), ¬ ((AtS l o x.f1).2 = 0 ∧ (AtS l o x.f1).1 ≠ []) := by
        intro h x hx
        rw [ht] at hx
        rcases List.mem_append.1 hx with h1 | h1
        · exact HT.out x h1
        · rw [List.mem_singleton.1 h1]; exact h
      clear ht
      generalize ca[j] = x at *
      replace HT2 := Aside0.mk HT2
      go_wp2_with fail
      refine (at_calls A c l o x.f1 _ (Kd.C_alloc (Kd.C_below HL.out HB3.out) _) hc (by omega) HOF.out).mono ?_
      rintro e w8 ⟨v, rfl, hR, hb⟩
      obtain ⟨A25, c25, rfl, h25, -⟩ := Kd.R_reads hR
      have HB4 := Aside0.mk (below_step (below_alloc HB3.out _) hb)
      clear x0 x1 hR hb
      generalize AtS l o x.f1 = at1 at *
      obtain ⟨ats, ate⟩ := at1
      dsimp only at HT2 h25
      by_cases h1 : ate = 0
      · have g4' : (ate == 0) = true := by simpa using h1
        by_cases h2 : ats = []
        · have g5' : decide (0 < ats.length) = false := by subst h2; rfl
          have HT := Aside0.mk (HT2.out (fun h => h.2 h2))
          clear h1 h2 HT2
          go_wp2
          go_roundw
          case rel => exact ⟨j + 1, by go_num, by omega, HT, HB4⟩
          case measure => simp [intOf]; omega
        · have hpos : 0 < ats.length := List.length_pos_iff.2 h2
          have g5' : decide (0 < ats.length) = true := decide_eq_true hpos
          have HB5 := Aside0.mk (below_step HB.out HB4.out)
          clear h1 h2 HT2 HT hpos
          go_wp2_with fail
          refine (sanity_calls _).mono ?_
          rintro e ws ⟨rfl, hbs⟩
          have HBS := Aside0.mk (below_step HB5.out hbs)
          clear hbs
          go_wp2
          go_ret
          exact ⟨rfl, HBS.out⟩
      · have g4' : (ate == 0) = false := by simpa using h1
        have HT := Aside0.mk (HT2.out (fun h => h1 h.1))
        clear h1 HT2
        go_wp2
        go_roundw
        case rel => exact ⟨j + 1, by go_num, by omega, HT, HB4⟩
        case measure => simp [intOf]; omega
    · obtain rfl : j = ca.length := by omega
      obtain ⟨q, hq, hq1, hq2⟩ := FE.out
      exact absurd ⟨hq1, hq2⟩ (HT.out q (by simpa using hq))
end Go.Proofs.Ytlelhmephibfjaa.T
