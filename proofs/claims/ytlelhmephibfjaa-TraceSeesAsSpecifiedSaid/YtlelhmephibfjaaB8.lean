/- Texts of this claim, laid together: S2. -/
import Derived.Test.YtlelhmephibfjaaB7

namespace Go.Proofs.Ytlelhmephibfjaa.T
set_option linter.unusedVariables false
set_option linter.unusedSimpArgs false
open Go.RowKit Go.Proofs.YtlelhmephibfjaaW.PrintWords Go.Proofs.YtlelhmephibfjaaW.PrintLast Go.Proofs.YtlelhmephibfjaaW.PrintMore

theorem add_gi (g i : Nat) : Addr.add ⟨g, 0, none⟩ i = ⟨g, i, none⟩ := by
  unfold Addr.add
  split
  · next h => rw [h]
  · simp
theorem C_one25 (w : World) (x : S25) (A3 : Option Addr) (c3 : Nat) (l3 : x.f3.length ≤ c3) (g3 : Kd.C (Kd.int .i64) w A3 x.f3.length x.f3) : Kd.C k25 (w.alloc (.cells #[.int .i64 x.f0, .int .i64 x.f1, .int .i64 x.f2, .slice A3 x.f3.length c3, .int .i64 x.f4, .int .i64 x.f5, .int .i64 x.f6, .int .i64 x.f7, .int .i64 x.f8, .int .i64 x.f9] 25)) (some ⟨w.heap.size, 0, none⟩) 1 [x] := by
  refine ⟨rfl, by decide, fun _ => ⟨_, rfl, fun j p hp => ?_⟩⟩
  have hj : j < 1 := by
    by_cases h : j < 1
    · exact h
    · rw [List.getElem?_eq_none (by simp; omega)] at hp; cases hp
  obtain rfl : j = 0 := by omega
  cases hp
  refine ⟨_, rfl, k25_mk _ x l3 (Kd.C_alloc g3 _), fun i u hu => ?_⟩
  rw [← hu, add_gi, Nat.zero_mul, Nat.zero_add]
  rw [blk_cell (blk_new w _) i]
  simp
theorem C_ints (w : World) (xs : List Int) (h : xs.length ≤ 9223372036854775807) : Kd.C (Kd.int .i64) (w.alloc (.cells (xs.map (fun x => Value.int .i64 x)).toArray 3)) (some ⟨w.heap.size, 0, none⟩) xs.length xs := by
  refine ⟨rfl, h, fun _ => ⟨_, rfl, fun j p hp => ⟨[.int .i64 p], rfl, rfl, fun i u hu => ?_⟩⟩⟩
  have hi : i < 1 := by
    by_cases h : i < 1
    · exact h
    · rw [List.getElem?_eq_none (by simp; omega)] at hu; cases hu
  obtain rfl : i = 0 := by omega
  cases hu
  rw [add_gi, show j * (Kd.int .i64).sz + 0 = j from Nat.mul_one j]
  rw [blk_cell (blk_new w _) j]
  simp [hp]

set_option maxRecDepth 100000 in
set_option maxHeartbeats 8000000 in
theorem sanity_calls (w : World) : Calls Try.prog 10 #[] w fun e w' => e = .returned (.bool true) ∧ Below w.heap.size w w' := by
  go_enter Try.func10, Try.ntmps10
  go_wp2_with fail
  refine (quietuslaw38_example.calls exL _ ex_f).mono ?_
  rintro e w1 ⟨v, rfl, hN, hb⟩
  obtain ⟨A, c, rfl, hc, hC⟩ := Kd.N_reads hN
  have hB := Aside0.mk hb
  have HL := Aside0.mk hC
  clear hN hb hC
  go_wp2_with fail
  refine (belowT_calls A c exL 1 w1 HL.out hc (by decide) ex_of).mono ?_
  rintro e w2 ⟨v, out, err, rfl, hcl, hR, hb⟩
  replace HL := Aside0.mk (Kd.C_below HL.out hb)
  replace hB := Aside0.mk (below_step hB.out hb)
  obtain ⟨rfl, rfl⟩ := ex_below hcl
  obtain ⟨AR2, cR2, rfl, hcR2, hC⟩ := Kd.R_reads hR
  have R2 := Aside0.mk hC
  clear hR hC hcl
  clear hb
  go_wp2_with fail
  refine (above_calls A c exL 3 w2 HL.out hc (by decide) ex_of).mono ?_
  rintro e w3 ⟨v, out, err, rfl, hcl, hR, hb⟩
  replace HL := Aside0.mk (Kd.C_below HL.out hb)
  replace R2 := Aside0.mk (Kd.C_below R2.out hb)
  replace hB := Aside0.mk (below_step hB.out hb)
  obtain ⟨rfl, rfl⟩ := ex_above hcl
  obtain ⟨AR4, cR4, rfl, hcR4, hC⟩ := Kd.R_reads hR
  have R4 := Aside0.mk hC
  clear hR hC hcl
  clear hb
  go_wp2_with fail
  refine (at_calls A c exL 7 11 w3 HL.out hc (by decide) ex_of).mono ?_
  rintro e w4 ⟨v, rfl, hR, hb⟩
  replace HL := Aside0.mk (Kd.C_below HL.out hb)
  replace R2 := Aside0.mk (Kd.C_below R2.out hb)
  replace R4 := Aside0.mk (Kd.C_below R4.out hb)
  replace hB := Aside0.mk (below_step hB.out hb)
  rw [ex_at] at hR
  rw [ex_at]
  dsimp only at hR
  obtain ⟨AR6, cR6, rfl, hcR6, hC⟩ := Kd.R_reads hR
  have R6 := Aside0.mk hC
  clear hR hC
  clear hb
  go_wp2_with fail
  refine (where_calls A c exL 7 11 w4 HL.out hc (by decide) ex_of).mono ?_
  rintro e w5 ⟨rfl, hb⟩
  replace HL := Aside0.mk (Kd.C_below HL.out hb)
  replace R2 := Aside0.mk (Kd.C_below R2.out hb)
  replace R4 := Aside0.mk (Kd.C_below R4.out hb)
  replace R6 := Aside0.mk (Kd.C_below R6.out hb)
  replace hB := Aside0.mk (below_step hB.out hb)
  rw [ex_where]
  clear hb
  go_wp2_with fail
  refine (trail_calls A c exL 7 w5 HL.out hc (by decide) ex_of).mono ?_
  rintro e w6 ⟨rfl, hb⟩
  replace HL := Aside0.mk (Kd.C_below HL.out hb)
  replace R2 := Aside0.mk (Kd.C_below R2.out hb)
  replace R4 := Aside0.mk (Kd.C_below R4.out hb)
  replace R6 := Aside0.mk (Kd.C_below R6.out hb)
  replace hB := Aside0.mk (below_step hB.out hb)
  rw [ex_trail]
  clear hb
  go_wp2_with fail
  refine (late_calls A c exL 7 28 w6 HL.out hc (by decide) ex_of).mono ?_
  rintro e w7 ⟨v, rfl, hR, hb⟩
  replace HL := Aside0.mk (Kd.C_below HL.out hb)
  replace R2 := Aside0.mk (Kd.C_below R2.out hb)
  replace R4 := Aside0.mk (Kd.C_below R4.out hb)
  replace R6 := Aside0.mk (Kd.C_below R6.out hb)
  replace hB := Aside0.mk (below_step hB.out hb)
  rw [ex_late] at hR
  rw [ex_late]
  dsimp only at hR
  obtain ⟨AR12, cR12, rfl, hcR12, hC⟩ := Kd.R_reads hR
  have R12 := Aside0.mk hC
  clear hR hC
  clear hb
  go_wp2_with ((with_reducible refine gate_dst (N := 73) rfl ?_); refine Kd.R_lit k71 _ 71 ?hg (N := 73) ?hd (xs := ([⟨1, 24⟩] : List S71)) (inner := [.int .i64 1, .int .i64 24]) (ok := fun _ => True) (okp := fun _ => True) ?hr ?hp (fun _ hk => hk) trivial (Below.refl _ _) (Nat.le_refl _) (by simp) ?_; (case hd => rfl); (case hg => rfl); (case hr => first | (go_simp; done) | (go_simp; rfl)); (case hp => exact (Reps.c2 (show Kd.M k71 _ _ _ (⟨1, 24⟩ : S71) [.int .i64 1, .int .i64 24] from (k71_mkM _ _ _ (⟨1, 24⟩ : S71))) (Reps.none _ _))); intro v8 w8 ho hb hg_ hnew_; clear hg_ hnew_; replace HL := Aside0.mk (Kd.C_below HL.out hb); replace R2 := Aside0.mk (Kd.C_below R2.out hb); replace R4 := Aside0.mk (Kd.C_below R4.out hb); replace R6 := Aside0.mk (Kd.C_below R6.out hb); replace R12 := Aside0.mk (Kd.C_below R12.out hb); replace hB := Aside0.mk (below_step hB.out hb); clear hb; obtain ⟨AR73, cR73, eo, hcR73, hC⟩ := Kd.R_reads ho; subst eo; have R73 := Aside0.mk hC; clear ho hC)
  go_wp2_with fail
  have HHas := has_calls A c exL 0 AR73 cR73 [⟨1, 24⟩] w8 HL.out hc (by decide) ex_of R73.out
  rw [ex_has] at HHas
  refine HHas.mono ?_
  clear HHas
  rintro e w9 ⟨v, rfl, hR, hb⟩
  replace HL := Aside0.mk (Kd.C_below HL.out hb)
  replace R2 := Aside0.mk (Kd.C_below R2.out hb)
  replace R4 := Aside0.mk (Kd.C_below R4.out hb)
  replace R6 := Aside0.mk (Kd.C_below R6.out hb)
  replace R12 := Aside0.mk (Kd.C_below R12.out hb)
  replace R73 := Aside0.mk (Kd.C_below R73.out hb)
  replace hB := Aside0.mk (below_step hB.out hb)
  obtain ⟨AR14, cR14, rfl, hcR14, hC⟩ := Kd.R_reads hR
  have R14 := Aside0.mk hC
  clear hR hC R73 hcR73
  clear hb
  go_wp2_with fail
  refine (quietuslaw38_spies.calls 1 24 0 50 0 [⟨1, 24⟩, ⟨0, 50⟩] w9 rfl).mono ?_
  rintro e w10 ⟨v, rfl, hR, hb⟩
  replace HL := Aside0.mk (Kd.C_below HL.out hb)
  replace R2 := Aside0.mk (Kd.C_below R2.out hb)
  replace R4 := Aside0.mk (Kd.C_below R4.out hb)
  replace R6 := Aside0.mk (Kd.C_below R6.out hb)
  replace R12 := Aside0.mk (Kd.C_below R12.out hb)
  replace R14 := Aside0.mk (Kd.C_below R14.out hb)
  replace hB := Aside0.mk (below_step hB.out hb)
  obtain ⟨Aq9, cq9, rfl, hcq9, hC⟩ := Kd.R_reads hR
  have q9 := Aside0.mk hC
  clear hR hC
  clear hb
  go_wp2_with fail
  refine (told_calls A c exL 7 2 0 Aq9 cq9 [⟨1, 24⟩, ⟨0, 50⟩] w10 HL.out hc (by decide) ex_of q9.out (by decide)).mono ?_
  rintro e w11 ⟨rfl, hb⟩
  replace HL := Aside0.mk (Kd.C_below HL.out hb)
  replace R2 := Aside0.mk (Kd.C_below R2.out hb)
  replace R4 := Aside0.mk (Kd.C_below R4.out hb)
  replace R6 := Aside0.mk (Kd.C_below R6.out hb)
  replace R12 := Aside0.mk (Kd.C_below R12.out hb)
  replace R14 := Aside0.mk (Kd.C_below R14.out hb)
  replace q9 := Aside0.mk (Kd.C_below q9.out hb)
  replace hB := Aside0.mk (below_step hB.out hb)
  rw [ex_told1]
  clear q9 hcq9
  clear hb
  go_wp2_with fail
  refine (quietuslaw38_spies.calls 1 25 0 50 0 [⟨1, 25⟩, ⟨0, 50⟩] w11 rfl).mono ?_
  rintro e w12 ⟨v, rfl, hR, hb⟩
  replace HL := Aside0.mk (Kd.C_below HL.out hb)
  replace R2 := Aside0.mk (Kd.C_below R2.out hb)
  replace R4 := Aside0.mk (Kd.C_below R4.out hb)
  replace R6 := Aside0.mk (Kd.C_below R6.out hb)
  replace R12 := Aside0.mk (Kd.C_below R12.out hb)
  replace R14 := Aside0.mk (Kd.C_below R14.out hb)
  replace hB := Aside0.mk (below_step hB.out hb)
  obtain ⟨Aq11, cq11, rfl, hcq11, hC⟩ := Kd.R_reads hR
  have q11 := Aside0.mk hC
  clear hR hC
  clear hb
  go_wp2_with fail
  refine (told_calls A c exL 7 2 0 Aq11 cq11 [⟨1, 25⟩, ⟨0, 50⟩] w12 HL.out hc (by decide) ex_of q11.out (by decide)).mono ?_
  rintro e w13 ⟨rfl, hb⟩
  replace HL := Aside0.mk (Kd.C_below HL.out hb)
  replace R2 := Aside0.mk (Kd.C_below R2.out hb)
  replace R4 := Aside0.mk (Kd.C_below R4.out hb)
  replace R6 := Aside0.mk (Kd.C_below R6.out hb)
  replace R12 := Aside0.mk (Kd.C_below R12.out hb)
  replace R14 := Aside0.mk (Kd.C_below R14.out hb)
  replace q11 := Aside0.mk (Kd.C_below q11.out hb)
  replace hB := Aside0.mk (below_step hB.out hb)
  rw [ex_told2]
  clear q11 hcq11
  clear hb
  go_wp2_with fail
  refine (quietuslaw38_spies.calls 0 11 0 11 0 [⟨0, 11⟩, ⟨0, 11⟩] w13 rfl).mono ?_
  rintro e w14 ⟨v, rfl, hR, hb⟩
  replace HL := Aside0.mk (Kd.C_below HL.out hb)
  replace R2 := Aside0.mk (Kd.C_below R2.out hb)
  replace R4 := Aside0.mk (Kd.C_below R4.out hb)
  replace R6 := Aside0.mk (Kd.C_below R6.out hb)
  replace R12 := Aside0.mk (Kd.C_below R12.out hb)
  replace R14 := Aside0.mk (Kd.C_below R14.out hb)
  replace hB := Aside0.mk (below_step hB.out hb)
  obtain ⟨Aq13, cq13, rfl, hcq13, hC⟩ := Kd.R_reads hR
  have q13 := Aside0.mk hC
  clear hR hC
  clear hb
  go_wp2_with fail
  refine (told_calls A c exL 7 2 0 Aq13 cq13 [⟨0, 11⟩, ⟨0, 11⟩] w14 HL.out hc (by decide) ex_of q13.out (by decide)).mono ?_
  rintro e w15 ⟨rfl, hb⟩
  replace HL := Aside0.mk (Kd.C_below HL.out hb)
  replace R2 := Aside0.mk (Kd.C_below R2.out hb)
  replace R4 := Aside0.mk (Kd.C_below R4.out hb)
  replace R6 := Aside0.mk (Kd.C_below R6.out hb)
  replace R12 := Aside0.mk (Kd.C_below R12.out hb)
  replace R14 := Aside0.mk (Kd.C_below R14.out hb)
  replace q13 := Aside0.mk (Kd.C_below q13.out hb)
  replace hB := Aside0.mk (below_step hB.out hb)
  rw [ex_told3]
  clear q13 hcq13
  clear hb
  go_wp2_with fail
  refine (end_calls _ A c exL 2 19 w15 (Kd.V_mk hc (Kd.C_F k25_heap HL.out)) (by decide) ex_of).mono ?_
  rintro e w16 ⟨vR22, rfl, hN, hb⟩
  replace HL := Aside0.mk (Kd.C_below HL.out hb)
  replace R2 := Aside0.mk (Kd.C_below R2.out hb)
  replace R4 := Aside0.mk (Kd.C_below R4.out hb)
  replace R6 := Aside0.mk (Kd.C_below R6.out hb)
  replace R12 := Aside0.mk (Kd.C_below R12.out hb)
  replace R14 := Aside0.mk (Kd.C_below R14.out hb)
  replace hB := Aside0.mk (below_step hB.out hb)
  rw [ex_end1] at hN
  rw [ex_end1]
  dsimp only at hN
  clear hN
  clear hb
  go_wp2_with fail
  refine (end_calls _ A c exL 2 21 w16 (Kd.V_mk hc (Kd.C_F k25_heap HL.out)) (by decide) ex_of).mono ?_
  rintro e w17 ⟨vR24, rfl, hN, hb⟩
  replace HL := Aside0.mk (Kd.C_below HL.out hb)
  replace R2 := Aside0.mk (Kd.C_below R2.out hb)
  replace R4 := Aside0.mk (Kd.C_below R4.out hb)
  replace R6 := Aside0.mk (Kd.C_below R6.out hb)
  replace R12 := Aside0.mk (Kd.C_below R12.out hb)
  replace R14 := Aside0.mk (Kd.C_below R14.out hb)
  replace hB := Aside0.mk (below_step hB.out hb)
  rw [ex_end2] at hN
  rw [ex_end2]
  dsimp only at hN
  obtain ⟨AR24, cR24, rfl, hcR24, hC⟩ := Kd.N_reads hN
  have R24 := Aside0.mk hC
  clear hN hC
  clear hb
  go_wp2_with fail
  refine (end_calls _ A c exL 1 40 w17 (Kd.V_mk hc (Kd.C_F k25_heap HL.out)) (by decide) ex_of).mono ?_
  rintro e w18 ⟨vR26, rfl, hN, hb⟩
  replace HL := Aside0.mk (Kd.C_below HL.out hb)
  replace R2 := Aside0.mk (Kd.C_below R2.out hb)
  replace R4 := Aside0.mk (Kd.C_below R4.out hb)
  replace R6 := Aside0.mk (Kd.C_below R6.out hb)
  replace R12 := Aside0.mk (Kd.C_below R12.out hb)
  replace R14 := Aside0.mk (Kd.C_below R14.out hb)
  replace R24 := Aside0.mk (Kd.C_below R24.out hb)
  replace hB := Aside0.mk (below_step hB.out hb)
  rw [ex_end3] at hN
  rw [ex_end3]
  dsimp only at hN
  clear hN
  clear hb
  go_wp2_with fail
  refine (purge_calls _ A c exL 7 31 w18 (Kd.V_mk hc (Kd.C_F k25_heap HL.out)) (by decide) ex_of).mono ?_
  rintro e w19 ⟨vR28, rfl, hN, hb⟩
  replace HL := Aside0.mk (Kd.C_below HL.out hb)
  replace R2 := Aside0.mk (Kd.C_below R2.out hb)
  replace R4 := Aside0.mk (Kd.C_below R4.out hb)
  replace R6 := Aside0.mk (Kd.C_below R6.out hb)
  replace R12 := Aside0.mk (Kd.C_below R12.out hb)
  replace R14 := Aside0.mk (Kd.C_below R14.out hb)
  replace R24 := Aside0.mk (Kd.C_below R24.out hb)
  replace hB := Aside0.mk (below_step hB.out hb)
  rw [ex_purge] at hN
  rw [ex_purge]
  dsimp only at hN
  obtain ⟨AR28, cR28, rfl, hcR28, hC⟩ := Kd.N_reads hN
  have R28 := Aside0.mk hC
  clear hN hC
  clear hb
  go_wp2_with fail
  refine (late_calls AR28 cR28 exP 7 31 w19 R28.out hcR28 (by decide) ex_pof).mono ?_
  rintro e w20 ⟨v, rfl, hR, hb⟩
  replace HL := Aside0.mk (Kd.C_below HL.out hb)
  replace R2 := Aside0.mk (Kd.C_below R2.out hb)
  replace R4 := Aside0.mk (Kd.C_below R4.out hb)
  replace R6 := Aside0.mk (Kd.C_below R6.out hb)
  replace R12 := Aside0.mk (Kd.C_below R12.out hb)
  replace R14 := Aside0.mk (Kd.C_below R14.out hb)
  replace R24 := Aside0.mk (Kd.C_below R24.out hb)
  replace R28 := Aside0.mk (Kd.C_below R28.out hb)
  replace hB := Aside0.mk (below_step hB.out hb)
  rw [ex_none] at hR
  rw [ex_none]
  dsimp only at hR
  obtain ⟨AR30, cR30, rfl, hcR30, hC⟩ := Kd.R_reads hR
  have R30 := Aside0.mk hC
  clear hR hC
  clear hb
  go_wp2_with fail
  obtain ⟨ad, A3, c3, rfl, x0, x1, x2, x3, x4, x5, x6, x7, x8, x9, hl3, hi3⟩ := at_T25 HL.out 2 (by decide) (by decide)
  have hrd : rd_T25 exL 2 = ⟨3, 2, 7, [2], 2, 0, 20, 30, -1, 0⟩ := by decide +kernel
  rw [hrd] at x0 x1 x2 x3 x4 x5 x6 x7 x8 x9 hl3 hi3
  rw [show Int.toNat 2 * 10 = 20 from rfl] at x0 x1 x2 x3 x4 x5 x6 x7 x8 x9
  change World.cell? _ ⟨ad.block, ad.off + 20, none⟩ = _ at x0
  change World.cell? _ ⟨ad.block, ad.off + 20 + 1, none⟩ = _ at x1
  change World.cell? _ ⟨ad.block, ad.off + 20 + 2, none⟩ = _ at x2
  change World.cell? _ ⟨ad.block, ad.off + 20 + 3, none⟩ = _ at x3
  change World.cell? _ ⟨ad.block, ad.off + 20 + 4, none⟩ = _ at x4
  change World.cell? _ ⟨ad.block, ad.off + 20 + 5, none⟩ = _ at x5
  change World.cell? _ ⟨ad.block, ad.off + 20 + 6, none⟩ = _ at x6
  change World.cell? _ ⟨ad.block, ad.off + 20 + 7, none⟩ = _ at x7
  change World.cell? _ ⟨ad.block, ad.off + 20 + 8, none⟩ = _ at x8
  change World.cell? _ ⟨ad.block, ad.off + 20 + 9, none⟩ = _ at x9
  dsimp only [List.length_cons, List.length_nil, Nat.reduceAdd] at x0 x1 x2 x3 x4 x5 x6 x7 x8 x9 hl3 hi3
  have HA3 := Aside0.mk hi3
  clear hi3 hrd
  have hc6 : 6 ≤ c := hc
  have hlen : exL.length = 6 := rfl
  have hu25 := Try.underlying25
  have HADD : Aside0 (∀ W, Below w20.heap.size w20 W → Calls Try.prog 11 #[.slice (some ad) 2 c, .agg #[.int .i64 3, .int .i64 2, .int .i64 7, .slice A3 1 c3, .int .i64 2, .int .i64 0, .int .i64 20, .int .i64 30, .int .i64 (-1), .int .i64 0]] W fun e w' => ∃ v0, e = .returned (.tuple #[v0, .int .i64 0]) ∧ Kd.N k25 25 w' W.heap.size (fun _ => True) v0 (exL.take 3) ∧ Below W.heap.size W w') :=
    ⟨fun W hW => (trace_Add.calls _ (some ad) c (exL.take 2) 3 2 7 _ A3 c3 [2] 2 0 20 30 (-1) 0 (exL.take 3) 0 W (Kd.V_mk (by show 2 ≤ c; omega) (Kd.C_F k25_heap (Kd.C_take (Kd.C_below HL.out hW) (by decide)))) (Kd.V_mk hl3 (Kd.C_F (Kd.heap_int .i64) (Kd.C_below HA3.out hW))) ex_add1).mono fun e w' ⟨v, h1, h2, h3⟩ => ⟨v, h1, Kd.N_mono h2 (fun _ _ => trivial), h3⟩⟩
  go_cut [32, 33] (fun v32 v33 wc => ∃ A32 c32, v32 = .slice A32 3 c32 ∧ 3 ≤ c32 ∧ Aside0 (Kd.C k25 wc A32 3 (exL.take 3)) ∧ v33 = .int .i64 0 ∧ Aside0 (Below w20.heap.size w20 wc))
  case first =>
    go_region_with (go_at_call 11; refine (HADD.out _ ?hA).mono ?_; (case hA => (repeat (first | with_reducible exact (Below.refl _ _) | with_reducible refine below_drew ?_ | with_reducible refine pw_below_drewN ?_ _))); rintro e w21 ⟨v, rfl, hN, hb⟩)
    all_goals (go_wp2_with fail; go_meet)
    all_goals (case rel =>
      obtain ⟨A32, c32, rfl, hc32, hC⟩ := Kd.N_reads hN
      exact ⟨A32, c32, rfl, hc32, ⟨hC⟩, rfl, ⟨below_step (by (repeat (first | with_reducible exact (Below.refl _ _) | with_reducible refine below_drew ?_ | with_reducible refine pw_below_drewN ?_ _))) hb⟩⟩)
  case rest =>
  obtain ⟨A32, c32, rfl, hc32, R32, rfl, HB32⟩ := hcut
  have hb := HB32.out
  clear HADD HA3 HB32 x0 x1 x2 x3 x4 x5 x6 x7 x8 x9 hl3
  replace HL := Aside0.mk (Kd.C_below HL.out hb)
  replace R2 := Aside0.mk (Kd.C_below R2.out hb)
  replace R4 := Aside0.mk (Kd.C_below R4.out hb)
  replace R6 := Aside0.mk (Kd.C_below R6.out hb)
  replace R12 := Aside0.mk (Kd.C_below R12.out hb)
  replace R14 := Aside0.mk (Kd.C_below R14.out hb)
  replace R24 := Aside0.mk (Kd.C_below R24.out hb)
  replace R28 := Aside0.mk (Kd.C_below R28.out hb)
  replace R30 := Aside0.mk (Kd.C_below R30.out hb)
  replace hB := Aside0.mk (below_step hB.out hb)
  clear hb
  go_wp2_with ((with_reducible refine gate_dst (N := 132) rfl ?_); refine Kd.R_lit (Kd.int .i64) _ 3 ?hg (N := 132) ?hd (xs := ([3] : List Int)) (inner := [.int .i64 3]) (ok := fun _ => True) (okp := fun _ => True) ?hr ?hp (fun _ hk => hk) trivial (Below.refl _ _) (Nat.le_refl _) (by simp) ?_; (case hd => rfl); (case hg => rfl); (case hr => first | (go_simp; done) | (go_simp; rfl)); (case hp => exact (Reps.one (show Kd.M (Kd.int .i64) _ _ _ 3 [.int .i64 3] from rfl) (Reps.none _ _))); intro v22 w22 ho hb hg_ hnew_; clear hg_ hnew_; replace HL := Aside0.mk (Kd.C_below HL.out hb); replace R2 := Aside0.mk (Kd.C_below R2.out hb); replace R4 := Aside0.mk (Kd.C_below R4.out hb); replace R6 := Aside0.mk (Kd.C_below R6.out hb); replace R12 := Aside0.mk (Kd.C_below R12.out hb); replace R14 := Aside0.mk (Kd.C_below R14.out hb); replace R24 := Aside0.mk (Kd.C_below R24.out hb); replace R28 := Aside0.mk (Kd.C_below R28.out hb); replace R30 := Aside0.mk (Kd.C_below R30.out hb); replace R32 := Aside0.mk (Kd.C_below R32.out hb); replace hB := Aside0.mk (below_step hB.out hb); clear hb; obtain ⟨A132, c132, eo, hc132, hC⟩ := Kd.R_reads ho; subst eo; have R132 := Aside0.mk hC; clear ho hC)
  refine (trace_Add.calls _ (some ad) c exL 7 2 7 _ A132 c132 [3] 0 0 30 40 (-1) 0 [] 4 w22 (Kd.V_mk hc (Kd.C_F k25_heap HL.out)) (Kd.V_mk hc132 (Kd.C_F (Kd.heap_int .i64) R132.out)) ex_add2).mono ?_
  rintro e w23 ⟨v34, rfl, hN, hb⟩
  replace HL := Aside0.mk (Kd.C_below HL.out hb)
  replace R2 := Aside0.mk (Kd.C_below R2.out hb)
  replace R4 := Aside0.mk (Kd.C_below R4.out hb)
  replace R6 := Aside0.mk (Kd.C_below R6.out hb)
  replace R12 := Aside0.mk (Kd.C_below R12.out hb)
  replace R14 := Aside0.mk (Kd.C_below R14.out hb)
  replace R24 := Aside0.mk (Kd.C_below R24.out hb)
  replace R28 := Aside0.mk (Kd.C_below R28.out hb)
  replace R30 := Aside0.mk (Kd.C_below R30.out hb)
  replace R32 := Aside0.mk (Kd.C_below R32.out hb)
  replace hB := Aside0.mk (below_step hB.out hb)
  clear hb hN R132 hc132
  go_wp2_with fail
  refine (check_calls (some ad) exL c w23 HL.out hc (by decide) ex_of).mono ?_
  rintro e w24 ⟨rfl, hb⟩
  replace HL := Aside0.mk (Kd.C_below HL.out hb)
  replace R2 := Aside0.mk (Kd.C_below R2.out hb)
  replace R4 := Aside0.mk (Kd.C_below R4.out hb)
  replace R6 := Aside0.mk (Kd.C_below R6.out hb)
  replace R12 := Aside0.mk (Kd.C_below R12.out hb)
  replace R14 := Aside0.mk (Kd.C_below R14.out hb)
  replace R24 := Aside0.mk (Kd.C_below R24.out hb)
  replace R28 := Aside0.mk (Kd.C_below R28.out hb)
  replace R30 := Aside0.mk (Kd.C_below R30.out hb)
  replace R32 := Aside0.mk (Kd.C_below R32.out hb)
  replace hB := Aside0.mk (below_step hB.out hb)
  rw [ex_check]
  clear hb
  obtain ⟨ad', A3, c3, ea, x0, x1, x2, x3, x4, x5, x6, x7, x8, x9, hl3, hi3⟩ := at_T25 HL.out 1 (by decide) (by decide)
  obtain rfl := Option.some.inj ea
  have hrd : rd_T25 exL 1 = ⟨2, 2, 7, [1], 1, 0, 11, 1000001, -1, 0⟩ := by decide +kernel
  rw [hrd] at x0 x1 x2 x3 x4 x5 x6 x7 x8 x9 hl3 hi3
  rw [show Int.toNat 1 * 10 = 10 from rfl] at x0 x1 x2 x3 x4 x5 x6 x7 x8 x9
  change World.cell? _ ⟨ad.block, ad.off + 10, none⟩ = _ at x0
  change World.cell? _ ⟨ad.block, ad.off + 10 + 1, none⟩ = _ at x1
  change World.cell? _ ⟨ad.block, ad.off + 10 + 2, none⟩ = _ at x2
  change World.cell? _ ⟨ad.block, ad.off + 10 + 3, none⟩ = _ at x3
  change World.cell? _ ⟨ad.block, ad.off + 10 + 4, none⟩ = _ at x4
  change World.cell? _ ⟨ad.block, ad.off + 10 + 5, none⟩ = _ at x5
  change World.cell? _ ⟨ad.block, ad.off + 10 + 6, none⟩ = _ at x6
  change World.cell? _ ⟨ad.block, ad.off + 10 + 7, none⟩ = _ at x7
  change World.cell? _ ⟨ad.block, ad.off + 10 + 8, none⟩ = _ at x8
  change World.cell? _ ⟨ad.block, ad.off + 10 + 9, none⟩ = _ at x9
  dsimp only [List.length_cons, List.length_nil, Nat.reduceAdd] at x0 x1 x2 x3 x4 x5 x6 x7 x8 x9 hl3 hi3
  have HA3 := Aside0.mk hi3
  clear hi3 hrd ea
  go_wp2_with fail
  clear x0 x1 x2 x3 x4 x5 x6 x7 x8 x9
  refine (check_calls (some ⟨w24.heap.size, 0, none⟩) [⟨2, 2, 7, [1], 1, 0, 11, 1000001, -1, 0⟩] 1 _ (C_one25 _ _ A3 c3 hl3 HA3.out) (by decide) (by decide) (by decide)).mono ?_
  rintro e w25 ⟨rfl, hb'⟩
  have hb := below_step (below_alloc (Below.refl w24.heap.size w24) (.cells #[.int .i64 2, .int .i64 2, .int .i64 7, .slice A3 1 c3, .int .i64 1, .int .i64 0, .int .i64 11, .int .i64 1000001, .int .i64 (-1), .int .i64 0] 25)) hb'
  replace HL := Aside0.mk (Kd.C_below HL.out hb)
  replace R2 := Aside0.mk (Kd.C_below R2.out hb)
  replace R4 := Aside0.mk (Kd.C_below R4.out hb)
  replace R6 := Aside0.mk (Kd.C_below R6.out hb)
  replace R12 := Aside0.mk (Kd.C_below R12.out hb)
  replace R14 := Aside0.mk (Kd.C_below R14.out hb)
  replace R24 := Aside0.mk (Kd.C_below R24.out hb)
  replace R28 := Aside0.mk (Kd.C_below R28.out hb)
  replace R30 := Aside0.mk (Kd.C_below R30.out hb)
  replace R32 := Aside0.mk (Kd.C_below R32.out hb)
  replace hB := Aside0.mk (below_step hB.out hb)
  rw [ex_one]
  clear hb hb' hl3 HA3
  go_wp2_with fail
  obtain ⟨kf, hkf⟩ := (sameList_r [2, 3, 6] (by decide)).rounds
  refine (quietusref38_SameList.calls kf AR2 cR2 [2, 3, 6] (some ⟨w25.heap.size, 0, none⟩) 3 [2, 3, 6] true _ (Kd.C_alloc R2.out _) hcR2 (C_ints _ [2, 3, 6] (by decide)) (by decide) hkf).mono ?_
  rintro e w26 ⟨rfl, hb'⟩
  have hb := below_step (below_alloc (Below.refl w25.heap.size w25) (.cells #[.int .i64 2, .int .i64 3, .int .i64 6] 3)) hb'.below
  replace HL := Aside0.mk (Kd.C_below HL.out hb)
  replace R4 := Aside0.mk (Kd.C_below R4.out hb)
  replace R6 := Aside0.mk (Kd.C_below R6.out hb)
  replace R12 := Aside0.mk (Kd.C_below R12.out hb)
  replace R14 := Aside0.mk (Kd.C_below R14.out hb)
  replace R24 := Aside0.mk (Kd.C_below R24.out hb)
  replace R28 := Aside0.mk (Kd.C_below R28.out hb)
  replace R30 := Aside0.mk (Kd.C_below R30.out hb)
  replace R32 := Aside0.mk (Kd.C_below R32.out hb)
  replace hB := Aside0.mk (below_step hB.out hb)
  clear hb hb' hkf kf R2 hcR2
  go_wp2_with fail
  obtain ⟨kf, hkf⟩ := (sameList_r [1, 2] (by decide)).rounds
  refine (quietusref38_SameList.calls kf AR4 cR4 [1, 2] (some ⟨w26.heap.size, 0, none⟩) 2 [1, 2] true _ (Kd.C_alloc R4.out _) hcR4 (C_ints _ [1, 2] (by decide)) (by decide) hkf).mono ?_
  rintro e w27 ⟨rfl, hb'⟩
  have hb := below_step (below_alloc (Below.refl w26.heap.size w26) (.cells #[.int .i64 1, .int .i64 2] 3)) hb'.below
  replace HL := Aside0.mk (Kd.C_below HL.out hb)
  replace R6 := Aside0.mk (Kd.C_below R6.out hb)
  replace R12 := Aside0.mk (Kd.C_below R12.out hb)
  replace R14 := Aside0.mk (Kd.C_below R14.out hb)
  replace R24 := Aside0.mk (Kd.C_below R24.out hb)
  replace R28 := Aside0.mk (Kd.C_below R28.out hb)
  replace R30 := Aside0.mk (Kd.C_below R30.out hb)
  replace R32 := Aside0.mk (Kd.C_below R32.out hb)
  replace hB := Aside0.mk (below_step hB.out hb)
  clear hb hb' hkf kf R4 hcR4
  go_wp2_with fail
  obtain ⟨kf, hkf⟩ := (sameList_r [1, 2, 4, 5, 6] (by decide)).rounds
  refine (quietusref38_SameList.calls kf AR6 cR6 [1, 2, 4, 5, 6] (some ⟨w27.heap.size, 0, none⟩) 5 [1, 2, 4, 5, 6] true _ (Kd.C_alloc R6.out _) hcR6 (C_ints _ [1, 2, 4, 5, 6] (by decide)) (by decide) hkf).mono ?_
  rintro e w28 ⟨rfl, hb'⟩
  have hb := below_step (below_alloc (Below.refl w27.heap.size w27) (.cells #[.int .i64 1, .int .i64 2, .int .i64 4, .int .i64 5, .int .i64 6] 3)) hb'.below
  replace HL := Aside0.mk (Kd.C_below HL.out hb)
  replace R12 := Aside0.mk (Kd.C_below R12.out hb)
  replace R14 := Aside0.mk (Kd.C_below R14.out hb)
  replace R24 := Aside0.mk (Kd.C_below R24.out hb)
  replace R28 := Aside0.mk (Kd.C_below R28.out hb)
  replace R30 := Aside0.mk (Kd.C_below R30.out hb)
  replace R32 := Aside0.mk (Kd.C_below R32.out hb)
  replace hB := Aside0.mk (below_step hB.out hb)
  clear hb hb' hkf kf R6 hcR6
  go_wp2_with fail
  obtain ⟨kf, hkf⟩ := (sameList_r [2, 4] (by decide)).rounds
  refine (quietusref38_SameList.calls kf AR12 cR12 [2, 4] (some ⟨w28.heap.size, 0, none⟩) 2 [2, 4] true _ (Kd.C_alloc R12.out _) hcR12 (C_ints _ [2, 4] (by decide)) (by decide) hkf).mono ?_
  rintro e w29 ⟨rfl, hb'⟩
  have hb := below_step (below_alloc (Below.refl w28.heap.size w28) (.cells #[.int .i64 2, .int .i64 4] 3)) hb'.below
  replace HL := Aside0.mk (Kd.C_below HL.out hb)
  replace R14 := Aside0.mk (Kd.C_below R14.out hb)
  replace R24 := Aside0.mk (Kd.C_below R24.out hb)
  replace R28 := Aside0.mk (Kd.C_below R28.out hb)
  replace R30 := Aside0.mk (Kd.C_below R30.out hb)
  replace R32 := Aside0.mk (Kd.C_below R32.out hb)
  replace hB := Aside0.mk (below_step hB.out hb)
  clear hb hb' hkf kf R12 hcR12
  go_wp2_with fail
  obtain ⟨kf, hkf⟩ := (sameList_r [2, 5] (by decide)).rounds
  refine (quietusref38_SameList.calls kf AR14 cR14 [2, 5] (some ⟨w29.heap.size, 0, none⟩) 2 [2, 5] true _ (Kd.C_alloc R14.out _) hcR14 (C_ints _ [2, 5] (by decide)) (by decide) hkf).mono ?_
  rintro e w30 ⟨rfl, hb'⟩
  have hb := below_step (below_alloc (Below.refl w29.heap.size w29) (.cells #[.int .i64 2, .int .i64 5] 3)) hb'.below
  replace HL := Aside0.mk (Kd.C_below HL.out hb)
  replace R24 := Aside0.mk (Kd.C_below R24.out hb)
  replace R28 := Aside0.mk (Kd.C_below R28.out hb)
  replace R30 := Aside0.mk (Kd.C_below R30.out hb)
  replace R32 := Aside0.mk (Kd.C_below R32.out hb)
  replace hB := Aside0.mk (below_step hB.out hb)
  clear hb hb' hkf kf R14 hcR14
  have hlE : exE.length = 6 := rfl
  have hlP : exP.length = 6 := rfl
  obtain ⟨adE, A3, c3, eE, -, -, -, -, -, -, -, x7, -, -, -, -⟩ := at_T25 R24.out 1 (by decide) (by decide)
  have hrd : rd_T25 exE 1 = ⟨2, 2, 7, [1], 1, 0, 11, 21, -1, 0⟩ := by decide +kernel
  rw [hrd, show Int.toNat 1 * 10 = 10 from rfl] at x7
  change World.cell? _ ⟨adE.block, adE.off + 10 + 7, none⟩ = some (.int .i64 21) at x7
  obtain ⟨adP, B3, d3, eP, -, -, -, -, -, -, -, y7, -, -, -, -⟩ := at_T25 R28.out 1 (by decide) (by decide)
  have hrd2 : rd_T25 exP 1 = ⟨2, 2, 7, [1], 1, 0, 11, 31, -1, 0⟩ := by decide +kernel
  rw [hrd2, show Int.toNat 1 * 10 = 10 from rfl] at y7
  change World.cell? _ ⟨adP.block, adP.off + 10 + 7, none⟩ = some (.int .i64 31) at y7
  obtain ⟨adQ, C3, g3, eQ, -, -, -, -, -, -, -, z7, -, -, -, -⟩ := at_T25 R28.out 2 (by decide) (by decide)
  have hrd3 : rd_T25 exP 2 = ⟨3, 2, 7, [2], 2, 0, 20, 30, -1, 0⟩ := by decide +kernel
  rw [hrd3, show Int.toNat 2 * 10 = 20 from rfl] at z7
  change World.cell? _ ⟨adQ.block, adQ.off + 20 + 7, none⟩ = some (.int .i64 30) at z7
  subst eE eP
  obtain rfl := Option.some.inj eQ
  clear hrd hrd2 hrd3 eQ
  go_wp2_with fail
  clear x7 y7 z7
  refine (same_calls A32 (some ad) (exL.take 3) c32 c _ R32.out (Kd.C_take HL.out (by decide)) hc32 (by show 3 ≤ c; omega) (by decide) (fun x hx => ex_of x (List.mem_of_mem_take hx))).mono ?_
  rintro e we ⟨rfl, hb⟩
  replace hB := Aside0.mk (below_step hB.out hb)
  clear hb
  go_wp2
  go_ret
  exact ⟨rfl, hB.out⟩
end Go.Proofs.Ytlelhmephibfjaa.T
