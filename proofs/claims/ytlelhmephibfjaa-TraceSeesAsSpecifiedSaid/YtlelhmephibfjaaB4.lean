/- Texts of this claim, laid together: H3. -/
import Derived.Test.YtlelhmephibfjaaB3
import Derived.Deep.RegionWith
import Derived.Outline

namespace Go.Proofs.Ytlelhmephibfjaa.T
open Go.RowKit Go.Proofs.YtlelhmephibfjaaW.PrintWords Go.Proofs.YtlelhmephibfjaaW.PrintLast Go.Proofs.YtlelhmephibfjaaW.PrintMore

/-! ### the specification -/
def refErr (pre : List S25) (a : S25) : List Int → Int
  | [] => 0
  | id :: r => if madeS a (rd_T25 pre (findS pre id)) = false then 7 else if thereS (rd_T25 pre (findS pre id)) a.f6 = false then 4 else refErr pre a r
def lastId (pre : List S25) : Int := (rd_T25 pre ((pre.length : Int) - 1)).f0
def oneS (pre : List S25) (a : S25) : Int :=
  if formedS a = false then 3
  else if 0 < pre.length ∧ lastId pre ≥ a.f0 then 9
  else if a.f3.any (fun id => decide (findS pre id < 0)) = true then 8
  else refErr pre a a.f3
def chk (pre : List S25) : List S25 → Int
  | [] => 0
  | a :: r => if oneS pre a = 0 then chk (pre ++ [a]) r else oneS pre a
def checkS (l : List S25) : Int := if l.length > 400 then 2 else chk [] l


/-- ten cells written: what is there then -/
theorem set10 {w : World} {b : Nat} {c0 c1 c2 c3 c4 c5 c6 c7 c8 c9 : Value} {T : TypeId} (h : w.heap[b]? = some (.cells #[c0, c1, c2, c3, c4, c5, c6, c7, c8, c9] T (0, 0))) (v0 v1 v2 v3 v4 v5 v6 v7 v8 v9 : Value) :
    ((((((((((w.setCell ⟨b, 0, none⟩ v0).setCell ⟨b, 1, none⟩ v1).setCell ⟨b, 2, none⟩ v2).setCell ⟨b, 3, none⟩ v3).setCell ⟨b, 4, none⟩ v4).setCell ⟨b, 5, none⟩ v5).setCell ⟨b, 6, none⟩ v6).setCell ⟨b, 7, none⟩ v7).setCell ⟨b, 8, none⟩ v8).setCell ⟨b, 9, none⟩ v9).heap[b]? = some (.cells #[v0, v1, v2, v3, v4, v5, v6, v7, v8, v9] T (0, 0)) ∧ (∀ g o, g ≠ b → w.heap[g]? = some o → ((((((((((w.setCell ⟨b, 0, none⟩ v0).setCell ⟨b, 1, none⟩ v1).setCell ⟨b, 2, none⟩ v2).setCell ⟨b, 3, none⟩ v3).setCell ⟨b, 4, none⟩ v4).setCell ⟨b, 5, none⟩ v5).setCell ⟨b, 6, none⟩ v6).setCell ⟨b, 7, none⟩ v7).setCell ⟨b, 8, none⟩ v8).setCell ⟨b, 9, none⟩ v9).heap[g]? = some o) ∧ (∀ B a, Below B a w → B ≤ b → Below B a ((((((((((w.setCell ⟨b, 0, none⟩ v0).setCell ⟨b, 1, none⟩ v1).setCell ⟨b, 2, none⟩ v2).setCell ⟨b, 3, none⟩ v3).setCell ⟨b, 4, none⟩ v4).setCell ⟨b, 5, none⟩ v5).setCell ⟨b, 6, none⟩ v6).setCell ⟨b, 7, none⟩ v7).setCell ⟨b, 8, none⟩ v8).setCell ⟨b, 9, none⟩ v9)) := by
  refine ⟨?_, ?_, ?_⟩
  · have := blk_set (blk_set (blk_set (blk_set (blk_set (blk_set (blk_set (blk_set (blk_set (blk_set (h) 0 v0) 1 v1) 2 v2) 3 v3) 4 v4) 5 v5) 6 v6) 7 v7) 8 v8) 9 v9
    simpa using this
  · intro g o hg ho
    have e : ∀ (W : World) i v, (W.setCell ⟨b, i, none⟩ v).heap[g]? = W.heap[g]? := fun W i v => Below.heap_setCell W ⟨b, i, none⟩ v g hg
    simp only [e]
    exact ho
  · intro B a hb hB
    have e : ∀ (W : World) i v, Below B a W → Below B a (W.setCell ⟨b, i, none⟩ v) := fun W i v h => h.setCell hB _
    repeat (apply e)
    exact hb
theorem idxFrom_append {α : Type} (g : α → Bool) : ∀ (l r : List α) (i : Int), 0 ≤ i → 0 ≤ idxFrom g l i → idxFrom g (l ++ r) i = idxFrom g l i
  | [], r, i, h, h' => by simp [idxFrom] at h'
  | x :: l, r, i, h, h' => by
    rw [List.cons_append, idxFrom, idxFrom]
    by_cases e : g x = true
    · rw [if_pos e, if_pos e]
    · rw [idxFrom, if_neg e] at h'
      rw [if_neg e, if_neg e, idxFrom_append g l r (i + 1) (by omega) h']
theorem idxFrom_lt {α : Type} (g : α → Bool) : ∀ (l : List α) (i : Int), 0 ≤ i → idxFrom g l i < i + l.length ∧ (idxFrom g l i = -1 ∨ i ≤ idxFrom g l i)
  | [], i, h => by simp [idxFrom]; omega
  | x :: l, i, h => by
    have := idxFrom_lt g l (i + 1) (by omega)
    rw [idxFrom]
    simp only [List.length_cons]
    split <;> omega
theorem findS_take (l : List S25) (k : Nat) (id : Int) (h : 0 ≤ findS (l.take k) id) : findS l id = findS (l.take k) id := by
  unfold findS at *
  have := idxFrom_append (fun a : S25 => a.f0 == id) (l.take k) (l.drop k) 0 (by omega) h
  rwa [List.take_append_drop] at this

set_option maxHeartbeats 8000000 in
set_option maxRecDepth 100000 in
theorem check1_calls (A : Option Addr) (l : List S25) (c k : Nat) (id : Int) (b1 b3 : Nat) (w : World) (hr : Kd.C k25 w A l.length l) (hc : l.length ≤ c) (hk : k ≤ l.length) (hl : l.length ≤ 1000000)
    (hb1 : w.cell? ⟨b1, 0, none⟩ = some (.slice A l.length c)) (hb3 : w.cell? ⟨b3, 0, none⟩ = some (.int .i64 k)) :
    Calls Try.prog 64 #[.int .i64 id, .pointer (some ⟨b1, 0, none⟩), .pointer (some ⟨b3, 0, none⟩)] w fun e w' => e = .returned (.bool (decide (findS (l.take k) id < 0))) ∧ Below w.heap.size w w' := by
  have HR := Aside0.mk hr
  clear hr
  have hlt : (l.take k).length = k := by rw [List.length_take]; omega
  have HT := Aside0.mk hlt
  clear hlt
  go_enter Try.func64, Try.ntmps64
  go_wp2_with fail
  have hf := find_calls A (l.take k) c id w (Kd.C_take HR.out hk) (by rw [HT.out]; omega)
  rw [HT.out] at hf
  refine hf.mono ?_
  rintro e w1 ⟨rfl, hb⟩
  have HB := Aside0.mk hb
  clear hb hf
  go_wp2
  go_ret
  exact ⟨rfl, HB.out⟩

theorem rd25_mem (l : List S25) (q : Int) (h0 : 0 ≤ q) (h1 : q < l.length) : rd_T25 l q ∈ l := by
  obtain ⟨j, rfl⟩ := Int.eq_ofNat_of_zero_le h0
  rw [rd25_get l j (by omega)]; exact List.getElem_mem _
theorem rd25_take (l : List S25) (k : Nat) (q : Int) (h0 : 0 ≤ q) (h1 : q < (l.take k).length) : rd_T25 (l.take k) q = rd_T25 l q := by
  obtain ⟨j, rfl⟩ := Int.eq_ofNat_of_zero_le h0
  have h2 := h1
  rw [List.length_take] at h2
  rw [rd25_get _ j (by omega), rd25_get l j (by omega), List.getElem_take]

set_option maxHeartbeats 16000000 in
set_option maxRecDepth 100000 in
theorem check_calls (A : Option Addr) (l : List S25) (c : Nat) (w : World) (hr : Kd.C k25 w A l.length l) (hc : l.length ≤ c) (hl : l.length ≤ 1000) (hof : ∀ x ∈ l, x.f3.length ≤ 1000) :
    Calls Try.prog 21 #[.slice A l.length c] w fun e w' => e = .returned (.int .i64 (checkS l)) ∧ Below w.heap.size w w' := by
  have hu25 := Try.underlying25
  have HR := Aside0.mk hr
  have HOF := Aside0.mk hof
  clear hr hof
  have hmf : ∀ (fn : Fn) (first cap : Array Value) (w : World), (Instr.makeFunc fn first cap).run Try.prog w = .ok (.func fn first cap) w := fun _ _ _ _ => rfl
  by_cases h400 : l.length > 400
  · have hs : checkS l = 2 := by unfold checkS; rw [if_pos h400]
    rw [hs]
    have h4 : decide ((400 : Int) < (l.length : Int)) = true := by simp; omega
    have h4' : decide (400 < l.length) = true := by simp; omega
    clear hs
    go_enter Try.func21, Try.ntmps21
    go_wp2
    go_ret
    exact ⟨rfl, by repeat (first | exact Below.refl _ _ | apply below_alloc | apply pw_below_drewN)⟩
  · have hs : checkS l = chk [] l := by unfold checkS; rw [if_neg h400]
    rw [hs]
    clear hs
    have h4 : decide ((400 : Int) < (l.length : Int)) = false := by simp; omega
    have h4' : decide (400 < l.length) = false := by simp; omega
    go_enter Try.func21, Try.ntmps21
    go_wp2
    go_loopw [13] (fun v wr => ∃ j : Nat, v = .int .i64 j ∧ j ≤ l.length ∧ Aside0 (chk [] l = chk (l.take j) (l.drop j)) ∧ Aside0 (∀ x ∈ l.take j, formedS x = true) ∧ Aside0 (Below w.heap.size w wr) ∧ Aside0 (wr.heap[w.heap.size]? = some (.cells #[.slice A l.length c] 22 (0, 0)))) (fun v _ => l.length - (intOf v).toNat)
    case atStart => exact ⟨0, rfl, by omega, ⟨rfl⟩, ⟨by simp⟩, ⟨by repeat (first | exact Below.refl _ _ | apply below_alloc | apply pw_below_drewN)⟩, ⟨blk_new _ _⟩⟩
    case round =>
      obtain ⟨j, rfl, hj, HE, HF, HB, HK1⟩ := hrel
      by_cases hlt : j < l.length
      · obtain ⟨ad, A3, c3, e1, x0, x1, x2, x3, x4, x5, x6, x7, x8, x9, hl3, hi3⟩ := at_T25 HR.out (j : Int) (by omega) (by omega)
        subst e1
        replace x0 := (HB.out.cell (lt_of_cell x0)).trans x0
        replace x1 := (HB.out.cell (lt_of_cell x1)).trans x1
        replace x2 := (HB.out.cell (lt_of_cell x2)).trans x2
        replace x3 := (HB.out.cell (lt_of_cell x3)).trans x3
        replace x4 := (HB.out.cell (lt_of_cell x4)).trans x4
        replace x5 := (HB.out.cell (lt_of_cell x5)).trans x5
        replace x6 := (HB.out.cell (lt_of_cell x6)).trans x6
        replace x7 := (HB.out.cell (lt_of_cell x7)).trans x7
        replace x8 := (HB.out.cell (lt_of_cell x8)).trans x8
        replace x9 := (HB.out.cell (lt_of_cell x9)).trans x9
        rw [rd25_get l j hlt] at x0 x1 x2 x3 x4 x5 x6 x7 x8 x9 hl3 hi3
        rw [Int.toNat_natCast] at x0 x1 x2 x3 x4 x5 x6 x7 x8 x9
        have HL3 := Aside0.mk hl3
        have HI3 := Aside0.mk hi3
        clear hl3 hi3
        have hd : l.drop j = l[j] :: l.drop (j + 1) := List.drop_eq_getElem_cons hlt
        have ht : l.take (j + 1) = l.take j ++ [l[j]] := by rw [List.take_succ_eq_append_getElem hlt]
        have he := HE.out
        rw [hd, chk, ← ht] at he
        have HE2 := Aside0.mk he
        have HT := Aside0.mk ht
        have hx : (l[j]).f3.length ≤ 1000 := HOF.out _ (List.getElem_mem hlt)
        clear he hd ht HE
        generalize l[j] = a at *
        go_wp2_with fail
        refine (formed_calls a A3 c3 _ (Kd.C_alloc (Kd.C_alloc (Kd.C_below HI3.out HB.out) _) _) HL3.out (by omega)).mono ?_
        rintro e w1 ⟨rfl, hb⟩
        have K1 := Aside0.mk (blk_below (blk_alloc (blk_alloc HK1.out _) _) hb)
        have K3 := Aside0.mk (blk_below (blk_alloc (blk_new wr _) _) hb)
        have K4 := Aside0.mk (blk_below (blk_new (wr.alloc (.cells #[.int .i64 j] 3)) _) hb)
        rw [World.size_alloc] at K4
        have HB1 := Aside0.mk (below_step (by repeat (first | exact HB.out | apply below_alloc)) hb)
        clear hb
        clear HB HK1 x0 x1 x2 x3 x4 x5 x6 x7 x8 x9
        cases hform : formedS a with
        | false =>
          have h3 : chk [] l = 3 := by
            rw [HE2.out]; unfold oneS; rw [if_pos hform]; rfl
          have H3 := Aside0.mk h3
          clear h3 hform
          go_wp2
          go_ret
          exact ⟨by rw [H3.out]; rfl, HB1.out⟩
        | true =>
          have HFM := Aside0.mk hform
          clear hform
          go_wp2
          go_cut [22] (fun v22 wc => v22 = .bool (decide (0 < j ∧ a.f0 ≤ lastId (l.take j))) ∧ Aside0 (Below w.heap.size w wc) ∧ Aside0 (wc.heap[w.heap.size]? = some (.cells #[.slice (some ad) l.length c] 22 (0, 0))) ∧ Aside0 (wc.heap[wr.heap.size]? = some (.cells #[.int .i64 j] 3 (0, 0))) ∧ Aside0 (wc.heap[wr.heap.size + 1]? = some (.cells #[.int .i64 a.f0, .int .i64 a.f1, .int .i64 a.f2, .slice A3 a.f3.length c3, .int .i64 a.f4, .int .i64 a.f5, .int .i64 a.f6, .int .i64 a.f7, .int .i64 a.f8, .int .i64 a.f9] 25 (0, 0))))
          case first =>
            have c3' := blk_cell K3.out
            by_cases hj0 : j = 0
            · subst hj0
              go_quiet (fail)
              go_wp2
              go_meet
              case rel => exact ⟨by simp, ⟨pw_below_drewN HB1.out _⟩, K1, K3, K4⟩
            · obtain ⟨m, rfl⟩ : ∃ m, j = m + 1 := ⟨j - 1, by omega⟩
              have c1' := blk_cell K1.out
              have c4' := blk_cell K4.out
              obtain ⟨ad', _, _, e1, x0, _⟩ := at_T25 (Kd.C_below HR.out HB1.out) (m : Int) (by omega) (by omega)
              obtain rfl := Option.some.inj e1
              rw [rd25_get l m (by omega)] at x0
              rw [Int.toNat_natCast] at x0
              have g1 : decide ((0 : Int) < ((m + 1 : Nat) : Int)) = true := by simp
              have g2 : decide (0 < m + 1) = true := by simp
              have hlast : lastId (l.take (m + 1)) = (l[m]'(by omega)).f0 := by
                unfold lastId
                have e : (l.take (m + 1)).length = m + 1 := by rw [List.length_take]; omega
                rw [e, show (((m + 1 : Nat) : Int) - 1) = (m : Int) by omega, rd25_get _ m (by omega), List.getElem_take]
              have HLAST := Aside0.mk hlast
              clear hlast
              go_quiet (fail)
              go_wp2
              go_meet
              case rel => exact ⟨by rw [HLAST.out]; simp, ⟨pw_below_drewN HB1.out _⟩, K1, K3, K4⟩
          case rest =>
            clear HB1 K1 K3 K4
            obtain ⟨rfl, HB1, K1, K3, K4⟩ := hcut
            by_cases hc9 : 0 < j ∧ a.f0 ≤ lastId (l.take j)
            · have ho : oneS (l.take j) a = 9 := by
                unfold oneS; rw [if_neg (by rw [HFM.out]; simp), if_pos ⟨by rw [List.length_take]; omega, hc9.2⟩]
              have h9 : chk [] l = 9 := by rw [HE2.out, ho]; rfl
              clear ho
              have H9 := Aside0.mk h9
              rw [decide_eq_true hc9]
              clear h9 hc9
              go_wp2
              go_ret
              exact ⟨by rw [H9.out]; rfl, HB1.out⟩
            · rw [decide_eq_false hc9]
              have h9 : chk [] l = if (if a.f3.any (fun id => decide (findS (l.take j) id < 0)) = true then 8 else refErr (l.take j) a a.f3) = 0 then chk (l.take (j + 1)) (l.drop (j + 1)) else (if a.f3.any (fun id => decide (findS (l.take j) id < 0)) = true then 8 else refErr (l.take j) a a.f3) := by
                have ho : oneS (l.take j) a = (if a.f3.any (fun id => decide (findS (l.take j) id < 0)) = true then 8 else refErr (l.take j) a a.f3) := by
                  unfold oneS; rw [if_neg (by rw [HFM.out]; simp), if_neg (by rw [List.length_take]; rintro ⟨h1, h2⟩; exact hc9 ⟨by omega, h2⟩)]
                rw [HE2.out, ho]
              have H9 := Aside0.mk h9
              clear h9 hc9 HE2
              have c4' := blk_cell K4.out
              go_wp2_with fail
              clear c4'
              refine (coni_calls 64 #[.pointer (some ⟨w.heap.size, 0, none⟩), .pointer (some ⟨wr.heap.size, 0, none⟩)] (fun id => decide (findS (l.take j) id < 0)) A3 a.f3 c3 wc (Kd.C_below HI3.out HB1.out) (by omega) (fun _ _ => rfl) ?_).mono ?_
              · intro x w' _ hb
                exact check1_calls (some ad) l c j x _ _ w' (Kd.C_below HR.out (below_step HB1.out hb)) hc hj (by omega) (blk_cell (blk_below K1.out hb) 0) (blk_cell (blk_below K3.out hb) 0)
              · rintro e w2 ⟨rfl, hb⟩
                replace K1 := Aside0.mk (blk_below K1.out hb)
                replace K4 := Aside0.mk (blk_below K4.out hb)
                have HB2 := Aside0.mk (below_step HB1.out hb)
                clear hb HB1 K3
                by_cases hany : a.f3.any (fun id => decide (findS (l.take j) id < 0)) = true
                · have h8 : chk [] l = 8 := by rw [H9.out, if_pos hany]; rfl
                  have H8 := Aside0.mk h8
                  rw [hany]
                  clear h8 hany
                  go_wp2
                  go_ret
                  exact ⟨by rw [H8.out]; rfl, HB2.out⟩
                · have h8 : chk [] l = if refErr (l.take j) a a.f3 = 0 then chk (l.take (j + 1)) (l.drop (j + 1)) else refErr (l.take j) a a.f3 := by rw [H9.out, if_neg hany]
                  have H8 := Aside0.mk h8
                  have HANY := Aside0.mk hany
                  have hany' : a.f3.any (fun id => decide (findS (l.take j) id < 0)) = false := by simpa using hany
                  rw [hany']
                  clear h8 hany hany' H9
                  have c4' := blk_cell K4.out
                  go_wp2
                  clear c4'
                  go_loopw [44] (fun v w3 => ∃ i : Nat, v = .int .i64 i ∧ i ≤ a.f3.length ∧ Aside0 (refErr (l.take j) a a.f3 = refErr (l.take j) a (a.f3.drop i)) ∧ Aside0 (Below w.heap.size w w3) ∧ Aside0 (w3.heap[w.heap.size]? = some (.cells #[.slice (some ad) l.length c] 22 (0, 0))) ∧ Aside0 (w3.heap[wr.heap.size + 1]? = some (.cells #[.int .i64 a.f0, .int .i64 a.f1, .int .i64 a.f2, .slice A3 a.f3.length c3, .int .i64 a.f4, .int .i64 a.f5, .int .i64 a.f6, .int .i64 a.f7, .int .i64 a.f8, .int .i64 a.f9] 25 (0, 0)))) (fun v _ => a.f3.length - (intOf v).toNat)
                  case atStart => exact ⟨0, rfl, by omega, ⟨rfl⟩, HB2, K1, K4⟩
                  case round =>
                    clear HB2 K1 K4
                    rename World => w3
                    obtain ⟨i, rfl, hi, HR3, HB3, K1, K4⟩ := hrel
                    by_cases hil : i < a.f3.length
                    · obtain ⟨ad3, e3, y0⟩ := Kd.at_int (Kd.C_below HI3.out HB3.out) (i : Int) (by omega) (by omega)
                      subst e3
                      rw [rd_get _ _ hil] at y0
                      rw [Int.toNat_natCast] at y0
                      have hmem : a.f3[i] ∈ a.f3 := List.getElem_mem hil
                      have hd3 : a.f3.drop i = a.f3[i] :: a.f3.drop (i + 1) := List.drop_eq_getElem_cons hil
                      have hr3 := HR3.out
                      rw [hd3, refErr] at hr3
                      have hq0 : 0 ≤ findS (l.take j) a.f3[i] := by
                        have h1 := HANY.out
                        simp only [List.any_eq_true, decide_eq_true_eq, not_exists, not_and] at h1
                        have := h1 _ hmem
                        omega
                      have hq1 := (idxFrom_lt (fun x : S25 => x.f0 == a.f3[i]) (l.take j) 0 (by omega)).1
                      have hqe := findS_take l j _ hq0
                      have hql : findS (l.take j) a.f3[i] < j := by
                        have : (l.take j).length = j := by rw [List.length_take]; omega
                        unfold findS; omega
                      have HFO := Aside0.mk (HF.out _ (rd25_mem (l.take j) _ hq0 (by rw [List.length_take]; omega)))
                      rw [rd25_take l j _ hq0 (by rw [List.length_take]; omega)] at hr3 HFO
                      clear hq1
                      have HQE := Aside0.mk hqe
                      clear hqe
                      generalize findS (l.take j) a.f3[i] = q at *
                      have HRR := Aside0.mk hr3
                      generalize a.f3[i] = id at *
                      clear hr3 hmem hd3 HR3
                      go_wp2
                      have k1 := blk_cell K1.out
                      obtain ⟨ado, Ao, co, eo, z0, z1, z2, z3, z4, z5, z6, z7, z8, z9, hlo, hio⟩ := at_T25 HR.out q hq0 (by omega)
                      obtain rfl := Option.some.inj eo
                      have HLO := Aside0.mk hlo
                      have HIO := Aside0.mk hio
                      have hql' : q < (l.length : Int) := by omega
                      clear hlo hio
                      have hfind : ∀ W, Below w3.heap.size w3 W → Calls Try.prog 47 #[.slice (some ad) l.length c, .int .i64 id] W fun e w4 => e = .returned (.int .i64 q) ∧ Below W.heap.size W w4 ∧ (∀ {p : Addr} {v : Value}, w3.cell? p = some v → w4.cell? p = some v ∧ ∀ o, (w4.alloc o).cell? p = some v) := by
                        intro W hW
                        have hWw := below_step HB3.out hW
                        refine (find_calls (some ad) l c id W (Kd.C_below HR.out hWw) (by omega)).mono ?_
                        rintro e w4 ⟨rfl, hb4⟩
                        exact ⟨by rw [HQE.out], hb4, fun h => ⟨keep_cell hb4 (keep_cell hW h), fun o => keep_alloc (keep_cell hb4 (keep_cell hW h))⟩⟩
                      have HFIND := Aside0.mk hfind
                      clear hfind
                      replace z0 := keep_cell HB3.out z0
                      replace z1 := keep_cell HB3.out z1
                      replace z2 := keep_cell HB3.out z2
                      replace z3 := keep_cell HB3.out z3
                      replace z4 := keep_cell HB3.out z4
                      replace z5 := keep_cell HB3.out z5
                      replace z6 := keep_cell HB3.out z6
                      replace z7 := keep_cell HB3.out z7
                      replace z8 := keep_cell HB3.out z8
                      replace z9 := keep_cell HB3.out z9
                      replace k1 := k1 0
                      have k1a := fun o => keep_alloc (o := o) k1
                      go_cut [7] (fun v7 wc2 => ∃ b, v7 = .pointer (some ⟨b, 0, none⟩) ∧ Aside0 (wc2.heap[b]? = some (.cells #[.int .i64 (rd_T25 l q).f0, .int .i64 (rd_T25 l q).f1, .int .i64 (rd_T25 l q).f2, .slice Ao (rd_T25 l q).f3.length co, .int .i64 (rd_T25 l q).f4, .int .i64 (rd_T25 l q).f5, .int .i64 (rd_T25 l q).f6, .int .i64 (rd_T25 l q).f7, .int .i64 (rd_T25 l q).f8, .int .i64 (rd_T25 l q).f9] 25 (0, 0))) ∧ Aside0 (Below w.heap.size w wc2) ∧ Aside0 (wc2.heap[w.heap.size]? = some (.cells #[.slice (some ad) l.length c] 22 (0, 0))) ∧ Aside0 (wc2.heap[wr.heap.size + 1]? = some (.cells #[.int .i64 a.f0, .int .i64 a.f1, .int .i64 a.f2, .slice (some ad3) a.f3.length c3, .int .i64 a.f4, .int .i64 a.f5, .int .i64 a.f6, .int .i64 a.f7, .int .i64 a.f8, .int .i64 a.f9] 25 (0, 0))))
                      case first =>
                        go_region_with (go_at_call 47; refine (HFIND.out _ ?hA).mono ?_; (case hA => (repeat (first | with_reducible exact (Below.refl _ _) | with_reducible exact Below.refl _ _ | with_reducible refine below_drew ?_ | with_reducible refine pw_below_drewN ?_ _ | with_reducible refine below_alloc ?_ _))); rintro e w4 ⟨rfl, hb4, hk⟩; (first | (have kn := blk_below (blk_drew (blk_new w3 (.cells #[.int .i64 0, .int .i64 0, .int .i64 0, .slice none 0 0, .int .i64 0, .int .i64 0, .int .i64 0, .int .i64 0, .int .i64 0, .int .i64 0] 25))) hb4; have kf := blk_frozen kn; have kc := blk_cell kn) | (have kn := blk_below (blk_drew (blk_drew (blk_new w3 (.cells #[.int .i64 0, .int .i64 0, .int .i64 0, .slice none 0 0, .int .i64 0, .int .i64 0, .int .i64 0, .int .i64 0, .int .i64 0, .int .i64 0] 25)))) hb4; have kf := blk_frozen kn; have kc := blk_cell kn) | skip); have g0 := hk z0; have g1 := hk z1; have g2 := hk z2; have g3 := hk z3; have g4 := hk z4; have g5 := hk z5; have g6 := hk z6; have g7 := hk z7; have g8 := hk z8; have g9 := hk z9; have g10 := hk k1; clear hk; obtain ⟨g0, g0'⟩ := g0; obtain ⟨g1, g1'⟩ := g1; obtain ⟨g2, g2'⟩ := g2; obtain ⟨g3, g3'⟩ := g3; obtain ⟨g4, g4'⟩ := g4; obtain ⟨g5, g5'⟩ := g5; obtain ⟨g6, g6'⟩ := g6; obtain ⟨g7, g7'⟩ := g7; obtain ⟨g8, g8'⟩ := g8; obtain ⟨g9, g9'⟩ := g9; obtain ⟨g10, g10'⟩ := g10)
                        all_goals (clear g0 g0' g1 g1' g2 g2' g3 g3' g4 g4' g5 g5' g6 g6' g7 g7' g8 g8' g9 g9' g10 g10' k1 k1a)
                        all_goals (go_wp2_with fail; go_meet)
                        all_goals (case rel => first
                          | (have kn' := kn; exact ⟨_, rfl, ⟨(set10 kn ..).1⟩, ⟨(set10 kn ..).2.2 _ _ (below_step (by (repeat (first | with_reducible exact HB3.out | with_reducible exact Below.refl _ _ | with_reducible refine below_drew ?_ | with_reducible refine pw_below_drewN ?_ _ | with_reducible refine below_alloc ?_ _))) hb4) HB3.out.size⟩, ⟨(set10 kn ..).2.1 _ _ (Nat.ne_of_lt (blk_lt K1.out)) (blk_below (by (repeat (first | with_reducible exact K1.out | with_reducible exact blk_new _ _ | with_reducible refine blk_drew ?_ | with_reducible refine blk_drewN ?_ _ | with_reducible refine blk_alloc ?_ _))) hb4)⟩, ⟨(set10 kn ..).2.1 _ _ (Nat.ne_of_lt (blk_lt K4.out)) (blk_below (by (repeat (first | with_reducible exact K4.out | with_reducible exact blk_new _ _ | with_reducible refine blk_drew ?_ | with_reducible refine blk_drewN ?_ _ | with_reducible refine blk_alloc ?_ _))) hb4)⟩⟩)
                          | exact ⟨_, rfl, ⟨blk_new _ _⟩, ⟨below_alloc (below_step (by (repeat (first | with_reducible exact HB3.out | with_reducible exact Below.refl _ _ | with_reducible refine below_drew ?_ | with_reducible refine pw_below_drewN ?_ _ | with_reducible refine below_alloc ?_ _))) hb4) _⟩, ⟨blk_alloc (blk_below (by (repeat (first | with_reducible exact K1.out | with_reducible exact blk_new _ _ | with_reducible refine blk_drew ?_ | with_reducible refine blk_drewN ?_ _ | with_reducible refine blk_alloc ?_ _))) hb4) _⟩, ⟨blk_alloc (blk_below (by (repeat (first | with_reducible exact K4.out | with_reducible exact blk_new _ _ | with_reducible refine blk_drew ?_ | with_reducible refine blk_drewN ?_ _ | with_reducible refine blk_alloc ?_ _))) hb4) _⟩⟩)
                      case rest =>
                        clear HB3 K1 K4 z0 z1 z2 z3 z4 z5 z6 z7 z8 z9 k1 k1a HFIND
                        obtain ⟨b, rfl, KB, HB3, K1, K4⟩ := hcut
                        have htt := there_t (rd_T25 l q) a.f6
                        have HTT := Aside0.mk htt
                        clear htt
                        have c4' := blk_cell K4.out
                        have cb' := blk_cell KB.out
                        go_wp2_with fail
                        clear c4' cb'
                        refine (made_calls a (rd_T25 l q) _ _ c3 co _ HFM.out HFO.out).mono ?_
                        rintro e w5 ⟨rfl, hb⟩
                        replace K1 := Aside0.mk (blk_below K1.out hb)
                        replace K4 := Aside0.mk (blk_below K4.out hb)
                        replace KB := Aside0.mk (blk_below KB.out hb)
                        replace HB3 := Aside0.mk (below_step HB3.out hb)
                        clear hb
                        cases hmd : madeS a (rd_T25 l q) with
                        | false =>
                          have h7 : chk [] l = 7 := by
                            have h := HRR.out
                            rw [if_pos hmd] at h
                            rw [H8.out, h]; rfl
                          have H7 := Aside0.mk h7
                          clear h7 hmd
                          go_wp2
                          go_ret
                          exact ⟨by rw [H7.out]; rfl, HB3.out⟩
                        | true =>
                          have h4 : refErr (List.take j l) a a.f3 = if thereS (rd_T25 l q) a.f6 = false then 4 else refErr (List.take j l) a (a.f3.drop (i + 1)) := by
                            have h := HRR.out
                            rwa [if_neg (by rw [hmd]; simp)] at h
                          have HR4 := Aside0.mk h4
                          clear h4 hmd HRR
                          have c4' := blk_cell K4.out
                          have cb' := blk_cell KB.out
                          go_wp2_with fail
                          clear c4' cb'
                          refine (trace_there.calls _ _ _ _ co (rd_T25 l q).f3 _ _ _ _ _ _ _ _ _ (Kd.C_below HIO.out HB3.out) HLO.out HTT.out).mono ?_
                          rintro e w6 ⟨rfl, hb⟩
                          replace K1 := Aside0.mk (blk_below K1.out hb)
                          replace K4 := Aside0.mk (blk_below K4.out hb)
                          replace HB3 := Aside0.mk (below_step HB3.out hb)
                          clear hb HTT KB
                          cases hth : thereS (rd_T25 l q) a.f6 with
                          | false =>
                            have h4 : chk [] l = 4 := by
                              have h := HR4.out
                              rw [if_pos hth] at h
                              rw [H8.out, h]; rfl
                            have H4 := Aside0.mk h4
                            clear h4 hth
                            go_wp2
                            go_ret
                            exact ⟨by rw [H4.out]; rfl, HB3.out⟩
                          | true =>
                            have h5 : refErr (List.take j l) a a.f3 = refErr (List.take j l) a (a.f3.drop (i + 1)) := by
                              rw [HR4.out, if_neg (by rw [hth]; simp)]
                            have HR5 := Aside0.mk h5
                            clear h5 hth HR4
                            go_wp2
                            go_roundw
                            case rel => exact ⟨i + 1, by go_num, by omega, HR5, HB3, K1, K4⟩
                            case measure => simp [intOf]; omega
                    · have hie : i = a.f3.length := by omega
                      subst hie
                      have h0 := HR3.out
                      rw [List.drop_length, refErr] at h0
                      have h1 : chk [] l = chk (List.take (j + 1) l) (List.drop (j + 1) l) := by rw [H8.out, if_pos h0]
                      have H1 := Aside0.mk h1
                      have hfa : ∀ x ∈ List.take (j + 1) l, formedS x = true := by
                        rw [HT.out]
                        intro x hx
                        rcases List.mem_append.1 hx with hx | hx
                        · exact HF.out x hx
                        · rw [List.mem_singleton.1 hx]; exact HFM.out
                      have HFA := Aside0.mk hfa
                      clear h0 h1 hfa H8 HR3 K4 HFM HT HANY HF
                      go_wp2
                      go_roundw
                      case rel => exact ⟨j + 1, by go_num, by omega, H1, HFA, HB3, K1⟩
                      case measure => simp [intOf]; omega
      · have hje : j = l.length := by omega
        subst hje
        have h0 := HE.out
        rw [List.drop_length, chk] at h0
        have H0 := Aside0.mk h0
        clear h0
        go_wp2
        go_ret
        exact ⟨by rw [H0.out]; rfl, HB.out⟩
end Go.Proofs.Ytlelhmephibfjaa.T
