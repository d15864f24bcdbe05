/- Texts of this claim, laid together: H16. -/
import Derived.Test.YtlelhmephibfjaaB5

namespace Go.Proofs.Ytlelhmephibfjaa.T
set_option linter.unusedVariables false
set_option linter.unusedSimpArgs false
open Go.RowKit Go.Shelf Go.Proofs.YtlelhmephibfjaaW.PrintWords Go.Proofs.YtlelhmephibfjaaW.PrintLast Go.Proofs.YtlelhmephibfjaaW.PrintMore
attribute [local go_sem] Oper.semAt_some

theorem info110 : (Try.prog.info? 110).map (fun i => (i.zero, i.size, i.bytes)) = some (some (.agg (Array.replicate 6000 (.bool false))), 6000, 6000) := by kernel_rfl
theorem info109 : (Try.prog.info? 109).map (fun i => (i.zero, i.size, i.bytes)) = some (some (.agg (Array.replicate 12 (.bool false))), 12, 12) := by kernel_rfl
theorem run_alloc110 : ∃ Z : Array Value, Z = Array.replicate 6000 (.bool false) ∧ ∀ W : World, (Instr.alloc 110 true (.tuple #[])).run Try.prog W = .ok (.pointer (some ⟨W.heap.size, 0, none⟩)) (W.alloc (.cells Z 110)) := by
  refine ⟨_, rfl, fun W => ?_⟩
  obtain ⟨i0, hi, hz0, hz1, hz2⟩ := info_parts info110
  simp [Instr.alloc, zeroValue, typeInfo, hi, hz0, newVar, newRow, Value.cells]
theorem results_told (tmps : Array Value) (w : World) (g g' : Nat) (v v' : Value) (hp : tmps.getD 8 undef = .pointer (some ⟨g, 0, none⟩)) (hp' : tmps.getD 9 undef = .pointer (some ⟨g', 0, none⟩))
    (hc : w.cell? ⟨g, 0, none⟩ = some v) (hc' : w.cell? ⟨g', 0, none⟩ = some v') : (results Try.f35 tmps).run Try.prog w = .ok (.tuple #[v, v']) w := by
  have h1 : tmps[8]?.getD undef = .pointer (some ⟨g, 0, none⟩) := by simpa using hp
  have h2 : tmps[9]?.getD undef = .pointer (some ⟨g', 0, none⟩) := by simpa using hp'
  have u4 := Try.underlying4
  have u29 := Try.underlying29
  have hr : Try.f35.results = #[.cell 8 4, .cell 9 29] := rfl
  simp [results, hr, h1, h2, asAddr, loadVar, isAgg, run_underlying u4, run_underlying u29, hc, hc']

def covF (xs : List S25) : Bool := xs.any (fun a => decide (a.f1 = 2))
def holF (xs : List S25) (p h : Nat) : Bool := xs.any (fun a => decide (a.f1 = 3) && (decide (a.f9 = p) && decide (a.f8 = h)))
def cntF (xs : List S25) (p : Nat) : Nat → Nat
  | 0 => 0
  | h + 1 => cntF xs p h + if holF xs p h = true then 1 else 0
def enF (xs : List S25) (need : Int) : Nat → Bool
  | 0 => false
  | p + 1 => enF xs need p || decide (need ≤ (cntF xs p 12 : Int))
def toldB (xs : List S25) (need : Int) : Bool := if xs.any (fun a => decide (a.f1 = 1)) = true then true else covF xs && enF xs need 500
def ToldS (l : List S25) (o need bad : Int) (caps : List S71) : Bool × Int :=
  if askedS l o need 1 12 ≠ 0 then (false, askedS l o need 1 12) else if spiedS bad caps ≠ 0 then (false, spiedS bad caps)
  else (toldB ((ofS o l).filter (fun a => seesS bad caps a)) need, 0)

theorem zero110 : Try.zeroCells110 = Array.replicate 6000 (.bool false) := by kernel_rfl
/-- the invariant of the loop of Told -/
structure TolI (bc bh n0 : Nat) (w0 W0 : World) (keep : List (Nat × Obj)) (xs : List S25) (W : World) : Prop where
  cov : Boxed W bc 4 (.bool (covF xs))
  hol : ∃ C : Array Value, W.heap[bh]? = some (.cells C 110 (0, 0)) ∧ C.size = 6000 ∧ ∀ p h, p < 500 → h < 12 → C[p * 12 + h]? = some (.bool (holF xs p h))
  fr : Fr n0 w0 W0 keep W
  nos : xs.any (fun a => decide (a.f1 = 1)) = false
theorem TolI.step {bc bh n0 : Nat} {w0 W0 W W' : World} {keep : List (Nat × Obj)} {xs : List S25} {row : Option Nat} (h : TolI bc bh n0 w0 W0 keep xs W) (hn : n0 ≤ w0.heap.size) (hg : W.grownBy W' row) (hr : ∀ k, row = some k → n0 ≤ k ∧ k ≠ bc ∧ k ≠ bh ∧ ∀ p ∈ keep, p.1 ≠ k) : TolI bc bh n0 w0 W0 keep xs W' := by
  obtain ⟨C, hC, h1, h2⟩ := h.hol
  exact ⟨h.cov.kept hg (fun e => (hr _ e.symm).2.1 rfl), ⟨C, blk_grown hC hg (fun e => (hr _ e.symm).2.2.1 rfl), h1, h2⟩, h.fr.step hn hg (fun k e => ⟨(hr k e).1, (hr k e).2.2.2⟩), h.nos⟩
theorem TolI.below {bc bh n0 : Nat} {w0 W0 W W' : World} {keep : List (Nat × Obj)} {xs : List S25} (h : TolI bc bh n0 w0 W0 keep xs W) (hn : n0 ≤ w0.heap.size) (hb : Below W.heap.size W W') : TolI bc bh n0 w0 W0 keep xs W' := h.step hn (grown_of_below hb none) (fun k e => by cases e)
def seenF (bad : Int) (caps : List S71) (xs : List S25) : List S25 := xs.filter (fun a => seesS bad caps a)
theorem tolI_own {w0 W0 : World} {l : List S25} {wi : World} (bad : Int) (caps : List S71) {bc bh n0 B : Nat} {keep : List (Nat × Obj)} (hn : n0 ≤ w0.heap.size) (hB : n0 ≤ B) (hk : ∀ p ∈ keep, p.2.isCells = true) :
    OwnFrom B (fun (pre : List (Item wi l)) W => TolI bc bh n0 w0 W0 keep (seenF bad caps (pre.map Item.val)) W) := fun pre W W' row h hg hr => by
  have notc : ∀ (b : Nat) (o : Obj), W.heap[b]? = some o → o.isCells = true → row ≠ some b := fun b o ho hc e => by
    obtain ⟨_, q, hq, hqc⟩ := hr b e
    rw [ho] at hq; cases hq; rw [hc] at hqc; cases hqc
  obtain ⟨C, hC, h1, h2⟩ := h.hol
  exact h.step hn hg (fun k e => ⟨Nat.le_trans hB (hr k e).1, fun e2 => notc bc _ h.cov rfl (e2 ▸ e), fun e2 => notc bh _ hC rfl (e2 ▸ e), fun p hp e2 => notc p.1 p.2 (h.fr.kept p hp) (hk p hp) (e2 ▸ e)⟩)
/-- what a round that returns leaves -/
structure TolX (b8 b9 n0 : Nat) (w0 W0 : World) (xs : List S25) (W : World) : Prop where
  r8 : Boxed W b8 4 (.bool true)
  r9 : Boxed W b9 29 (.int .i64 0)
  bel : Below n0 w0 W
  src : xs.any (fun a => decide (a.f1 = 1)) = true
theorem tolX_own {w0 W0 : World} {l : List S25} {wi : World} (bad : Int) (caps : List S71) {b8 b9 n0 B : Nat} (hn : n0 ≤ w0.heap.size) (hB : n0 ≤ B) (c : Code) :
    OwnFrom B (fun (pre : List (Item wi l)) W => c = .ret ∧ TolX b8 b9 n0 w0 W0 (seenF bad caps (pre.map Item.val)) W) := fun pre W W' row h hg hr => by
  have notc : ∀ (b : Nat) (o : Obj), W.heap[b]? = some o → o.isCells = true → row ≠ some b := fun b o ho hc e => by
    obtain ⟨_, q, hq, hqc⟩ := hr b e
    rw [ho] at hq; cases hq; rw [hc] at hqc; cases hqc
  exact ⟨h.1, h.2.r8.kept hg (fun e => notc _ _ h.2.r8 rfl e.symm), h.2.r9.kept hg (fun e => notc _ _ h.2.r9 rfl e.symm), h.2.bel.grown hg (Nat.le_trans hn h.2.bel.size) (fun k e => Nat.le_trans hB (hr k e).1), h.2.src⟩

theorem seen_take {bad o : Int} {caps : List S71} {l : List S25} {k : Nat} {p : S25 → Bool} (h : (seenF bad caps (ofS o (l.take k))).any p = true) : (seenF bad caps (ofS o l)).any p = true := by
  obtain ⟨x, hx, hp⟩ := List.any_eq_true.1 h
  refine List.any_eq_true.2 ⟨x, ?_, hp⟩
  unfold seenF ofS at *
  obtain ⟨h1, h2⟩ := List.mem_filter.1 hx
  obtain ⟨h3, h4⟩ := List.mem_filter.1 h1
  exact List.mem_filter.2 ⟨List.mem_filter.2 ⟨List.mem_of_mem_take h3, h4⟩, h2⟩
theorem toldB_src {xs : List S25} {need : Int} (h : xs.any (fun a => decide (a.f1 = 1)) = true) : toldB xs need = true := by unfold toldB; rw [if_pos h]
theorem seenF_snoc (bad : Int) (caps : List S71) (xs : List S25) (a : S25) : seenF bad caps (xs ++ [a]) = seenF bad caps xs ++ (if seesS bad caps a = true then [a] else []) := by
  unfold seenF
  rw [List.filter_append]
  congr 1
  by_cases h : seesS bad caps a = true <;> simp [h]
theorem cntF_le (xs : List S25) (p : Nat) : ∀ h, cntF xs p h ≤ h
  | 0 => Nat.le_refl _
  | h + 1 => by have := cntF_le xs p h; unfold cntF; split <;> omega
theorem index109 (xs : List S25) (p h : Nat) (hh : h < 12) : ∀ W : World, (Instr.index 109 (.agg #[.bool (holF xs p 0), .bool (holF xs p 1), .bool (holF xs p 2), .bool (holF xs p 3), .bool (holF xs p 4), .bool (holF xs p 5), .bool (holF xs p 6), .bool (holF xs p 7), .bool (holF xs p 8), .bool (holF xs p 9), .bool (holF xs p 10), .bool (holF xs p 11)]) (.int .i64 h)).run Try.prog W = .ok (.bool (holF xs p h)) W := by
  intro W
  have u := Try.underlying109
  have u4 := Try.underlying4
  obtain ⟨i0, hi, hz0, hz1, hz2⟩ := info_parts info4
  have : h = 0 ∨ h = 1 ∨ h = 2 ∨ h = 3 ∨ h = 4 ∨ h = 5 ∨ h = 6 ∨ h = 7 ∨ h = 8 ∨ h = 9 ∨ h = 10 ∨ h = 11 := by omega
  rcases this with rfl | rfl | rfl | rfl | rfl | rfl | rfl | rfl | rfl | rfl | rfl | rfl <;>
    simp [Instr.index, asIntOf, run_underlying u, sizeOf, typeInfo, hi, hz1, part, isAgg, run_underlying u4]
theorem index110 (C : Array Value) (xs : List S25) (h1 : C.size = 6000) (h2 : ∀ p h, p < 500 → h < 12 → C[p * 12 + h]? = some (.bool (holF xs p h))) (p : Nat) (hp : p < 500) : ∀ W : World, (Instr.index 110 (.agg C) (.int .i64 p)).run Try.prog W = .ok (.agg #[.bool (holF xs p 0), .bool (holF xs p 1), .bool (holF xs p 2), .bool (holF xs p 3), .bool (holF xs p 4), .bool (holF xs p 5), .bool (holF xs p 6), .bool (holF xs p 7), .bool (holF xs p 8), .bool (holF xs p 9), .bool (holF xs p 10), .bool (holF xs p 11)]) W := by
  intro W
  have u := Try.underlying110
  have u9 := Try.underlying109
  obtain ⟨i0, hi, hz0, hz1, hz2⟩ := info_parts info109
  have hx : C.extract (p * 12) (p * 12 + 12) = #[.bool (holF xs p 0), .bool (holF xs p 1), .bool (holF xs p 2), .bool (holF xs p 3), .bool (holF xs p 4), .bool (holF xs p 5), .bool (holF xs p 6), .bool (holF xs p 7), .bool (holF xs p 8), .bool (holF xs p 9), .bool (holF xs p 10), .bool (holF xs p 11)] := by
    apply Array.ext
    · simp [h1]; omega
    · intro i hi1 hi2
      have hi3 : i < 12 := by simpa using hi2
      have := h2 p i hp hi3
      rw [Array.getElem_extract]
      have e : C[p * 12 + i]'(by omega) = .bool (holF xs p i) := by
        have h := Array.getElem?_eq_getElem (xs := C) (i := p * 12 + i) (by omega)
        rw [this] at h; exact (Option.some.inj h).symm
      rw [e]
      have : i = 0 ∨ i = 1 ∨ i = 2 ∨ i = 3 ∨ i = 4 ∨ i = 5 ∨ i = 6 ∨ i = 7 ∨ i = 8 ∨ i = 9 ∨ i = 10 ∨ i = 11 := by omega
      rcases this with rfl | rfl | rfl | rfl | rfl | rfl | rfl | rfl | rfl | rfl | rfl | rfl <;> rfl
  simp [Instr.index, asIntOf, run_underlying u, sizeOf, typeInfo, hi, hz1, part, isAgg, run_underlying u9, hx, hp]
theorem gate_load110 {F : Fence} {n : Nat} {P : Program} {ops : Array Oper} {rest : List Oper} {o : Oper} {a : Act} {Q : Exit → Act → World → Prop} {w : World} {x : Operand} (ho : o.op = .load 110 x) (h : wpListIn F n P ops Q (o :: rest) a w) : wpListIn F n P ops Q (o :: rest) a w := h
theorem wpListIn_load110 {F : Fence} {n : Nat} {P : Program} {ops : Array Oper} {rest : List Oper} {o : Oper} {a : Act} {Q : Exit → Act → World → Prop} {w : World} (hgd : o.guard = none) (x : Operand) (ho : o.op = .load 110 x) (g : Nat) (hx : a.eval x = .pointer (some ⟨g, 0, none⟩)) (C : Array Value)
    (hrun : (Instr.loadAt 110 (.pointer (some ⟨g, 0, none⟩))).run P w = .ok (.agg C) w) (h : wpListIn F n P ops Q rest (a.put o.dst (.agg C)) w) : wpListIn F n P ops Q (o :: rest) a w := by
  refine wpListIn_plain hgd fun K hK' => ?_
  unfold Oper.wpIn
  refine ⟨?_, ?_⟩
  · simp [Oper.about, ho]
  · rw [Oper.semAt_plain F _ _ (by rw [ho]; intro c hc'; cases hc')]
    have he : (execOp a.eval o).run P w = .ok (.value (.agg C)) w := by
      unfold execOp
      simp only [ho, hx, Sem.run_bind, hrun, Result.andThen_ok, Sem.run_pure]
    rw [he]
    exact hK' _ _ h
theorem grown_set_drew' (W : World) (b o : Nat) (v : Value) : W.grownBy ((W.setCell ⟨b, o, none⟩ v).drew) (some b) :=
  ⟨rfl, rfl, rfl, (grownBy_setCell'' W b o v).size, fun k _ hk => Below.heap_setCell _ _ _ k (fun e => hk (by rw [e]))⟩
theorem covF_snoc (xs : List S25) (a : S25) : covF (xs ++ [a]) = (covF xs || decide (a.f1 = 2)) := by unfold covF; simp
theorem holF_snoc (xs : List S25) (a : S25) (p h : Nat) : holF (xs ++ [a]) p h = (holF xs p h || (decide (a.f1 = 3) && (decide (a.f9 = p) && decide (a.f8 = h)))) := by unfold holF; simp

set_option maxRecDepth 100000 in
set_option maxHeartbeats 8000000 in
theorem told_calls (A : Option Addr) (c : Nat) (l : List S25) (o need bad : Int) (Ac : Option Addr) (cc : Nat) (caps : List S71) (w : World) (hr : Kd.C k25 w A l.length l) (hc : l.length ≤ c) (hl : l.length ≤ 1000) (hof : ∀ x ∈ l, x.f3.length ≤ 1000)
    (hcap : Kd.C k71 w Ac caps.length caps) (hlc : caps.length ≤ 1000000) :
    Calls Try.prog 35 #[.slice A l.length c, .int .i64 o, .int .i64 need, .agg #[.int .i64 bad, .slice Ac caps.length cc]] w fun e w' => e = .returned (.tuple #[.bool (ToldS l o need bad caps).1, .int .i64 (ToldS l o need bad caps).2]) ∧ Below w.heap.size w w' := by
  have hu25 := Try.underlying25
  have HR := Aside0.mk hr
  have HOF := Aside0.mk hof
  have HCAP := Aside0.mk hcap
  have HASK := Aside0.mk (asked_t l o need 1 12 hl hof)
  clear hr hof hcap
  refine (callsIn_wide (n := 3)).1 ?_
  refine callsIn_of_wp_marks Try.func35 rfl trivial ?_ rfl
  simp only [Try.ntmps35, List.size_toArray, List.length_cons, List.length_nil, Nat.reduceAdd, Nat.reduceSub, Array.replicate_succ, Array.replicate_zero, List.push_toArray, List.append_toArray, List.nil_append, List.cons_append]
  gi_wp2_with fail
  refine ⟨trivial, (callsIn_wide.2 (trace_asked.calls A c l o need 1 12 _ _ (Kd.C_alloc (Kd.C_alloc (Kd.C_alloc HR.out _) _) _) hc HASK.out)).mono ?_⟩
  rintro e w1 ⟨rfl, hb⟩
  have K7 := Aside0.mk (blk_below (blk_alloc (blk_alloc (blk_new w (.cells #[.int .i64 bad, .slice Ac caps.length cc] 48)) (.cells #[.bool false] 4)) (.cells #[.int .i64 0] 29)) hb)
  have K8 := Aside0.mk (blk_below (blk_alloc (blk_new (w.alloc (.cells #[.int .i64 bad, .slice Ac caps.length cc] 48)) (.cells #[.bool false] 4)) (.cells #[.int .i64 0] 29)) hb)
  have K9 := Aside0.mk (blk_below (blk_new ((w.alloc (.cells #[.int .i64 bad, .slice Ac caps.length cc] 48)).alloc (.cells #[.bool false] 4)) (.cells #[.int .i64 0] 29)) hb)
  rw [World.size_alloc] at K8
  rw [World.size_alloc, World.size_alloc] at K9
  have HB1 : Aside0 (Below w.heap.size w w1) := ⟨below_step (below_alloc (below_alloc (below_alloc (Below.refl _ _) _) _) _) hb⟩
  clear hb HASK
  by_cases h0 : askedS l o need 1 12 = 0
  · have HP := Aside0.mk (show ToldS l o need bad caps = if spiedS bad caps ≠ 0 then (false, spiedS bad caps) else (toldB ((ofS o l).filter (fun a => seesS bad caps a)) need, 0) by unfold ToldS; rw [if_neg (by simpa using h0)])
    have HOK := Aside0.mk (asked_ok h0)
    rw [h0]
    clear h0
    have k7 := blk_cell K7.out
    gi_wp2_with fail
    clear k7
    refine ⟨trivial, (callsIn_wide.2 (spied_calls bad Ac cc caps _ (Kd.C_below HCAP.out HB1.out) hlc)).mono ?_⟩
    rintro e w2 ⟨rfl, hb⟩
    replace K7 := Aside0.mk (blk_below K7.out hb)
    replace K8 := Aside0.mk (blk_below K8.out hb)
    replace K9 := Aside0.mk (blk_below K9.out hb)
    have HB2 := Aside0.mk (below_step HB1.out hb)
    clear hb HB1
    by_cases hs0 : spiedS bad caps = 0
    · have HP2 := Aside0.mk (show ToldS l o need bad caps = (toldB ((ofS o l).filter (fun a => seesS bad caps a)) need, 0) by rw [HP.out, if_neg (by simpa using hs0)])
      have HBAD : Aside0 (0 ≤ bad ∧ bad ≤ 4095) := ⟨by
        unfold spiedS at hs0
        split at hs0
        · cases hs0
        · rename_i h; simp only [wi, Bool.not_eq_false, decide_eq_true_eq] at h; exact h⟩
      rw [hs0]
      clear hs0 HP
      gi_wp2_with fail
      refine ⟨trivial, (callsIn_wide.2 (of_calls A l.length c o _)).mono ?_⟩
      rintro e w3 ⟨rfl, rfl⟩
      gi_wp2_with fail
      have bC : Boxed ((((w2.alloc (.cells #[.bool false] 4)).alloc (.cells Try.zeroCells110 110)).alloc (.cells #[.slice A l.length c] 22)).alloc (.cells #[.int .i64 o] 3)) w2.heap.size 4 (.bool false) := (((Boxed.new w2 4 (.bool false)).alloc _).alloc _).alloc _
      have bH : ((((w2.alloc (.cells #[.bool false] 4)).alloc (.cells Try.zeroCells110 110)).alloc (.cells #[.slice A l.length c] 22)).alloc (.cells #[.int .i64 o] 3)).heap[w2.heap.size + 1]? = some (.cells Try.zeroCells110 110 (0, 0)) := by
        have := blk_alloc (blk_alloc (blk_new (w2.alloc (.cells #[.bool false] 4)) (.cells Try.zeroCells110 110)) (.cells #[.slice A l.length c] 22)) (.cells #[.int .i64 o] 3)
        rwa [World.size_alloc] at this
      have bL := (Boxed.new ((w2.alloc (.cells #[.bool false] 4)).alloc (.cells Try.zeroCells110 110)) 22 (.slice A l.length c)).alloc (.cells #[.int .i64 o] 3)
      have bQ := Boxed.new (((w2.alloc (.cells #[.bool false] 4)).alloc (.cells Try.zeroCells110 110)).alloc (.cells #[.slice A l.length c] 22)) 3 (.int .i64 o)
      simp only [World.size_alloc] at bL bQ
      have hw2 := HB2.out.size
      have hlt1 := blk_lt K9.out
      have HF0 : Fr w.heap.size w ((((w2.alloc (.cells #[.bool false] 4)).alloc (.cells Try.zeroCells110 110)).alloc (.cells #[.slice A l.length c] 22)).alloc (.cells #[.int .i64 o] 3)) [(w.heap.size, .cells #[.int .i64 bad, .slice Ac caps.length cc] 48 (0, 0)), (w.heap.size + 1, .cells #[.bool false] 4 (0, 0)), (w.heap.size + 1 + 1, .cells #[.int .i64 0] 29 (0, 0))] ((((w2.alloc (.cells #[.bool false] 4)).alloc (.cells Try.zeroCells110 110)).alloc (.cells #[.slice A l.length c] 22)).alloc (.cells #[.int .i64 o] 3)) :=
        ⟨below_alloc (below_alloc (below_alloc (below_alloc HB2.out _) _) _) _, Nat.le_refl _, by
          intro p hp
          simp only [List.mem_cons, List.not_mem_nil, or_false] at hp
          rcases hp with rfl | rfl | rfl
          · exact blk_alloc (blk_alloc (blk_alloc (blk_alloc K7.out _) _) _) _
          · exact blk_alloc (blk_alloc (blk_alloc (blk_alloc K8.out _) _) _) _
          · exact blk_alloc (blk_alloc (blk_alloc (blk_alloc K9.out _) _) _) _⟩
      have hsz : ((((w2.alloc (.cells #[.bool false] 4)).alloc (.cells Try.zeroCells110 110)).alloc (.cells #[.slice A l.length c] 22)).alloc (.cells #[.int .i64 o] 3)).heap.size = w2.heap.size + 4 := by simp
      replace hsz := Nat.le_of_eq hsz.symm
      obtain ⟨W0, hW0⟩ : ∃ W0, ((((w2.alloc (.cells #[.bool false] 4)).alloc (.cells Try.zeroCells110 110)).alloc (.cells #[.slice A l.length c] 22)).alloc (.cells #[.int .i64 o] 3)) = W0 := ⟨_, rfl⟩
      rw [hW0] at bC bH bL bQ HF0 hsz ⊢
      clear hW0
      rw [zero110] at bH
      have HI0 : TolI w2.heap.size (w2.heap.size + 1) w.heap.size w W0 [(w.heap.size, .cells #[.int .i64 bad, .slice Ac caps.length cc] 48 (0, 0)), (w.heap.size + 1, .cells #[.bool false] 4 (0, 0)), (w.heap.size + 1 + 1, .cells #[.int .i64 0] 29 (0, 0))] (seenF bad caps ([] : List S25)) W0 := ⟨bC, ⟨_, bH, by simp, fun p h hp hh => by
        rw [Array.getElem?_replicate, if_pos (by omega)]; rfl⟩, HF0, rfl⟩
      refine wpIn_rangeFunc_ownH rfl (by omega) (gf := 89) (lb := #[.pointer (some ⟨w2.heap.size + 1 + 1, 0, none⟩), .pointer (some ⟨w2.heap.size + 1 + 1 + 1, 0, none⟩)]) rfl trivial (enters_of Try.func89 (by kernel_rfl) rfl)
        (of1_stops Fence.wide 2 trivial rfl (by omega) (w2.heap.size + 1 + 1) (w2.heap.size + 1 + 1 + 1) A c l o w W0 HR.out hl HF0.bel bL.cell bQ) KpO.t (KpO.b (by omega) (by omega)) (Below.refl _ _) (fun _ => rfl)
        (fun pre W => TolI w2.heap.size (w2.heap.size + 1) w.heap.size w W0 [(w.heap.size, .cells #[.int .i64 bad, .slice Ac caps.length cc] 48 (0, 0)), (w.heap.size + 1, .cells #[.bool false] 4 (0, 0)), (w.heap.size + 1 + 1, .cells #[.int .i64 0] 29 (0, 0))] (seenF bad caps (pre.map Item.val)) W)
        (fun c pre W => c = .ret ∧ TolX (w.heap.size + 1) (w.heap.size + 1 + 1) w.heap.size w W0 (seenF bad caps (pre.map Item.val)) W)
        (tolI_own bad caps (Nat.le_refl _) (by omega) (by simp [Obj.isCells]))
        (fun c => tolX_own bad caps (Nat.le_refl _) (by omega) c)
        HI0
        (fun x a' W => ∃ Bx, W0.heap.size ≤ Bx ∧ W.heap[Bx]? = some (.cells #[.int .i64 x.1.1.f0, .int .i64 x.1.1.f1, .int .i64 x.1.1.f2, .slice x.1.2.1 x.1.1.f3.length x.1.2.2, .int .i64 x.1.1.f4, .int .i64 x.1.1.f5, .int .i64 x.1.1.f6, .int .i64 x.1.1.f7, .int .i64 x.1.1.f8, .int .i64 x.1.1.f9] 25 (0, 0)) ∧
          a' = { tmps := #[.slice A l.length c, .int .i64 o, .int .i64 need, .agg #[.int .i64 bad, .slice Ac caps.length cc], undef, undef, undef, .pointer (some ⟨w.heap.size, 0, none⟩), .pointer (some ⟨w.heap.size + 1, 0, none⟩), .pointer (some ⟨w.heap.size + 1 + 1, 0, none⟩), .int .i64 0, .int .i64 0, .pointer (some ⟨w2.heap.size, 0, none⟩), .bool false, .pointer (some ⟨w2.heap.size + 1, 0, none⟩), .pointer (some ⟨Bx, 0, none⟩), undef, undef, undef, undef, undef, .slice A l.length c, .int .i64 o, .int .i64 need, .int .i64 0, .int .i64 0, .bool false, undef, .agg #[.int .i64 bad, .slice Ac caps.length cc], .int .i64 0, .int .i64 0, .bool false, undef, .slice A l.length c, .int .i64 o, .func (.func 89) #[] #[.pointer (some ⟨w2.heap.size + 1 + 1, 0, none⟩), .pointer (some ⟨w2.heap.size + 1 + 1 + 1, 0, none⟩)], V25 x.1.1 x.1.2.1 x.1.2.2, undef, undef, undef, undef, undef, undef, undef, undef, undef, undef, undef, undef, undef, undef, undef, undef, undef, undef, undef, undef, undef, undef, undef, undef, undef, undef, undef, undef, undef, undef, undef, undef, undef, undef, undef, undef, undef, undef, undef, undef, undef], defers := [] })
        (fun x a' _ X Y row hs hg hr => by
          obtain ⟨Bx, h1, h2, h3⟩ := hs
          exact ⟨Bx, h1, (hg.block Bx (Array.getElem?_eq_some_iff.1 h2).1 (fun e => by obtain ⟨_, q, hq, hc⟩ := hr Bx e.symm; rw [h2] at hq; cases hq; cases hc)).trans h2, h3⟩)
        ?assign ?body ?done ?stop
      case assign =>
        rintro l' pre x W K hI hK
        have hsW := hI.fr.siz
        have HI := Aside0.mk hI
        clear hI
        simp only [encItem, V25]
        gi_wp2
        exact hK _ _ ((KeepsOthers.alloc _ _).from _) (kpo_below (by omega) (below_alloc (Below.refl _ _) _)) (HI.out.below (Nat.le_refl _) (below_alloc (Below.refl _ _) _)) ⟨W.heap.size, hsW, blk_new _ _, rfl⟩
      case body =>
        rintro l' pre x a' W hl' ⟨r, hrl⟩ hI ⟨Bx, hBx, bX, rfl⟩ hlt
        obtain ⟨⟨a, A3, c3⟩, hmem, hl3, hi3⟩ := x
        simp only at bX
        have hsW := hI.fr.siz
        have HSN : ∀ (hp : a ∈ l ∧ a.f3.length ≤ c3 ∧ Kd.C (Kd.int .i64) w A3 a.f3.length a.f3), seenF bad caps ((pre ++ [(⟨(a, A3, c3), hp⟩ : Item w l)]).map Item.val) = seenF bad caps (pre.map Item.val) ++ (if seesS bad caps a = true then [a] else []) := by
          intro hp
          rw [List.map_append]
          exact seenF_snoc _ _ _ _
        have HSN := Aside0.mk (HSN ⟨hmem, hl3, hi3⟩)
        have HI := Aside0.mk hI
        have HBXX := Aside0.mk bX
        have HI3 := Aside0.mk hi3
        have HFM := Aside0.mk (check_formed (a := a) HOK.out.1 hmem)
        have hb4 := where_bd (a := a) HOK.out.1 hmem
        have k7 := blk_cell (hI.fr.kept _ (List.mem_cons_self))
        have kx := blk_cell bX
        generalize seenF bad caps (pre.map Item.val) = q at *
        clear hI bX hrl
        gi_wp2_with fail
        refine ⟨trivial, (CallsIn.inRound l' (callsIn_wide.2 (sees_calls bad Ac cc caps a A3 c3 W (Kd.C_below HCAP.out HI.out.fr.bel) hlc (Kd.C_below HI3.out HI.out.fr.bel) hl3 hb4.1 hb4.2 HBAD.out.1 HBAD.out.2))).mono ?_⟩
        rintro e w3 ⟨rfl, hb⟩
        have HB := Aside0.mk hb
        have HI2 := Aside0.mk (HI.out.below (Nat.le_refl _) hb)
        have HX3 := Aside0.mk (blk_below HBXX.out hb)
        have hs3 := HI2.out.fr.siz
        clear hb kx k7
        cases hth : seesS bad caps a with
        | false =>
          rw [hth, if_neg (by simp), List.append_nil] at HSN
          clear hth
          gi_wp2
          exact ⟨keepsFrom_below HB.out, kpo_below (by omega) HB.out, by show TolI _ _ _ _ _ _ (seenF bad caps (List.map Item.val _)) _; rw [HSN.out]; exact HI2.out⟩
        | true =>
          rw [hth, if_pos rfl] at HSN
          clear hth
          have kx := blk_cell HX3.out
          by_cases h1 : a.f1 = 1
          · have g1 : (a.f1 == 1) = true := by simpa using h1
            have K8' := HI2.out.fr.kept _ (List.mem_cons_of_mem _ (List.mem_cons_self))
            have K9' := HI2.out.fr.kept _ (List.mem_cons_of_mem _ (List.mem_cons_of_mem _ (List.mem_cons_self)))
            have k8 := blk_cell K8' 0
            have k9 := blk_cell K9' 0
            have f8 := blk_frozen K8' 0
            have f9 := blk_frozen K9' 0
            have N8 := Aside0.mk (blk_far (blk_set K8' 0 (.bool true)) (p := ⟨w.heap.size + 1 + 1, 0, none⟩) (by simp) (.int .i64 0))
            have N9 := Aside0.mk (blk_set (blk_far K9' (p := ⟨w.heap.size + 1, 0, none⟩) (by simp) (.bool true)) 0 (.int .i64 0))
            have HSRC := Aside0.mk (show (q ++ [a]).any (fun a => decide (a.f1 = 1)) = true by rw [List.any_append]; simp [h1])
            clear h1 K8' K9'
            gi_wp2
            exact ⟨(keepsFrom_below HB.out).trans (((KeepsOthers.setCell _ _ _).trans (KeepsOthers.setCell _ _ _)).from _), rfl, N8.out, N9.out, (HI2.out.fr.bel.setCell (p := ⟨w.heap.size + 1, 0, none⟩) (by simp) _).setCell (p := ⟨w.heap.size + 1 + 1, 0, none⟩) (by simp; omega) _, by rw [HSN.out]; exact HSRC.out⟩
          · by_cases h2 : a.f1 = 2
            · have g1 : (a.f1 == 1) = false := by simpa using h1
              have g2 : (a.f1 == 2) = true := by simpa using h2
              have kc := HI2.out.cov.cell
              have fc := HI2.out.cov.frozen
              have HN : Aside0 (TolI w2.heap.size (w2.heap.size + 1) w.heap.size w W0 [(w.heap.size, .cells #[.int .i64 bad, .slice Ac caps.length cc] 48 (0, 0)), (w.heap.size + 1, .cells #[.bool false] 4 (0, 0)), (w.heap.size + 1 + 1, .cells #[.int .i64 0] 29 (0, 0))] (q ++ [a]) (w3.setCell ⟨w2.heap.size, 0, none⟩ (.bool true))) := ⟨by
                have hi := HI2.out
                refine ⟨by rw [covF_snoc, decide_eq_true h2, Bool.or_true]; exact hi.cov.set _, ?_, hi.fr.set (Nat.le_refl _) _ _ _ hw2 (by
                  intro p hp
                  simp only [List.mem_cons, List.not_mem_nil, or_false] at hp
                  rcases hp with rfl | rfl | rfl <;> simp <;> omega), by rw [List.any_append, hi.nos]; simp [h1]⟩
                obtain ⟨C, hC, hc1, hc2⟩ := hi.hol
                exact ⟨C, blk_far hC (p := ⟨w2.heap.size, 0, none⟩) (by simp) _, hc1, fun p h hp hh => by rw [holF_snoc, decide_eq_false (by omega)]; simpa using hc2 p h hp hh⟩⟩
              clear h1 h2
              gi_wp2
              exact ⟨(keepsFrom_below HB.out).trans ((KeepsOthers.setCell _ _ _).from _), KpO.t (kpo_below (by omega) HB.out) (kpo_grown (by omega) (grownBy_setCell' _ _ _) (fun k hk => by cases hk; exact ⟨hw2, by omega⟩)), by show TolI _ _ _ _ _ _ (seenF bad caps (List.map Item.val _)) _; rw [HSN.out]; exact HN.out⟩
            · by_cases h3 : a.f1 = 3
              · have g1 : (a.f1 == 1) = false := by simpa using h1
                have g2 : (a.f1 == 2) = false := by simpa using h2
                have g3 : (a.f1 == 3) = true := by simpa using h3
                have hks : (0 ≤ a.f8 ∧ a.f8 ≤ 11) ∧ 0 ≤ a.f9 ∧ a.f9 ≤ 499 := by
                  have h := HFM.out
                  rw [formedS_eq] at h
                  simp only [Bool.and_eq_true] at h
                  have h := h.2
                  unfold kindS at h
                  rw [if_pos h3] at h
                  simp only [wi, Bool.and_eq_true, decide_eq_true_eq] at h
                  exact h
                obtain ⟨hh, e8⟩ := Int.eq_ofNat_of_zero_le hks.1.1
                obtain ⟨pp, e9⟩ := Int.eq_ofNat_of_zero_le hks.2.1
                have hhb : hh < 12 := by omega
                have hpb : pp < 500 := by omega
                have HE8 := Aside0.mk e8
                have HE9 := Aside0.mk e9
                have hi := HI2.out
                obtain ⟨C, hC, hc1, hc2⟩ := hi.hol
                have kc := blk_cell hC (pp * 12 + hh)
                rw [hc2 pp hh hpb hhb] at kc
                have fc := blk_frozen hC (pp * 12 + hh)
                have HCC := Aside0.mk hC
                have HC1 := Aside0.mk hc1
                have HC2 := Aside0.mk hc2
                have hmx : Try.prog.follows .mixedOrders = true := by kernel_rfl
                have H1 := Aside0.mk h1
                have H2 := Aside0.mk h2
                have H3 := Aside0.mk h3
                rw [e8, e9] at kx
                have HN : Aside0 (TolI w2.heap.size (w2.heap.size + 1) w.heap.size w W0 [(w.heap.size, .cells #[.int .i64 bad, .slice Ac caps.length cc] 48 (0, 0)), (w.heap.size + 1, .cells #[.bool false] 4 (0, 0)), (w.heap.size + 1 + 1, .cells #[.int .i64 0] 29 (0, 0))] (q ++ [a]) ((w3.setCell ⟨w2.heap.size + 1, pp * 12 + hh, none⟩ (.bool true)).drew)) := ⟨by
                  have hg := grown_set_drew' w3 (w2.heap.size + 1) (pp * 12 + hh) (.bool true)
                  refine ⟨by rw [covF_snoc, decide_eq_false h2, Bool.or_false]; exact hi.cov.kept hg (by simp), ?_, hi.fr.step (Nat.le_refl _) hg (fun k hk => by
                    cases hk
                    refine ⟨by omega, fun p hp => ?_⟩
                    simp only [List.mem_cons, List.not_mem_nil, or_false] at hp
                    rcases hp with rfl | rfl | rfl <;> simp <;> omega), by rw [List.any_append, hi.nos]; simp [h1]⟩
                  refine ⟨C.setIfInBounds (pp * 12 + hh) (.bool true), blk_set hC _ _, by simpa using hc1, fun p h hp hlt2 => ?_⟩
                  rw [holF_snoc, decide_eq_true h3, Bool.true_and, e8, e9, Array.getElem?_setIfInBounds]
                  by_cases e : pp = p ∧ hh = h
                  · obtain ⟨rfl, rfl⟩ := e
                    rw [if_pos rfl, if_pos (by omega)]; simp
                  · rw [if_neg (by omega), hc2 p h hp hlt2]
                    by_cases e1 : pp = p
                    · have e2 : ¬ hh = h := fun e2 => e ⟨e1, e2⟩
                      have : decide ((hh : Int) = (h : Int)) = false := decide_eq_false (by omega)
                      rw [this]; simp
                    · have : decide ((pp : Int) = (p : Int)) = false := decide_eq_false (by omega)
                      rw [this]; simp⟩
                clear hi hks hC hc1 hc2 h1 h2 h3 e8 e9
                gi_wp2
                gi_region_with_o (fail)
                all_goals gi_wp2
                all_goals exact ⟨(keepsFrom_below HB.out).trans (((KeepsOthers.setCell _ _ _).trans (KeepsOthers.drew _)).from _), KpO.t (kpo_below (by omega) HB.out) (kpo_grown (by omega) (grown_set_drew' _ _ _ _) (fun k hk => by cases hk; exact ⟨by omega, by omega⟩)), by show TolI _ _ _ _ _ _ (seenF bad caps (List.map Item.val _)) _; rw [HSN.out]; exact HN.out⟩
              · have g1 : (a.f1 == 1) = false := by simpa using h1
                have g2 : (a.f1 == 2) = false := by simpa using h2
                have g3 : (a.f1 == 3) = false := by simpa using h3
                have HN : Aside0 (TolI w2.heap.size (w2.heap.size + 1) w.heap.size w W0 [(w.heap.size, .cells #[.int .i64 bad, .slice Ac caps.length cc] 48 (0, 0)), (w.heap.size + 1, .cells #[.bool false] 4 (0, 0)), (w.heap.size + 1 + 1, .cells #[.int .i64 0] 29 (0, 0))] (q ++ [a]) w3) := ⟨by
                  have hi := HI2.out
                  refine ⟨by rw [covF_snoc, decide_eq_false h2, Bool.or_false]; exact hi.cov, ?_, hi.fr, by rw [List.any_append, hi.nos]; simp [h1]⟩
                  obtain ⟨C, hC, hc1, hc2⟩ := hi.hol
                  exact ⟨C, hC, hc1, fun p h hp hh => by rw [holF_snoc, decide_eq_false h3]; simpa using hc2 p h hp hh⟩⟩
                clear h1 h2 h3
                gi_wp2
                exact ⟨keepsFrom_below HB.out, kpo_below (by omega) HB.out, by show TolI _ _ _ _ _ _ (seenF bad caps (List.map Item.val _)) _; rw [HSN.out]; exact HN.out⟩
      case done =>
        rintro D ys W hD hys hI hK
        obtain ⟨C, hC, hc1, hc2⟩ := hI.hol
        have hload : ∀ (P : Program), P = Try.prog → (Instr.loadAt 110 (.pointer (some ⟨w2.heap.size + 1, 0, none⟩))).run P W = .ok (.agg C) W := fun P hP => by
          subst hP
          simp only [Instr.loadAt, Instr.sureAddr, Sem.run_bind, Sem.run_pure, Result.andThen_ok]
          exact run_loadVar_row (P := Try.prog) W (w2.heap.size + 1) 110 110 C (0, 0) _ hC Try.underlying110 rfl (by
            obtain ⟨i0, hi, hz0, hz1, hz2⟩ := info_parts info110
            rw [hi, hc1]; simp [hz1])
        have HLOAD := Aside0.mk (hload _ rfl)
        clear hload
        have HI := Aside0.mk hI
        have HK := Aside0.mk hK
        have HC1 := Aside0.mk hc1
        have HC2 := Aside0.mk hc2
        have HYS := Aside0.mk hys
        clear hI hK hc1 hc2 hC hys
        gi_wp2_with ((with_reducible refine gate_load110 rfl ?_); refine wpListIn_load110 rfl (.tmp 14) rfl (w2.heap.size + 1) rfl C HLOAD.out ?_)
        have hxs : seenF bad caps (ys.map Item.val) = seenF bad caps (ofS o l) := by rw [HYS.out]
        have HXS := Aside0.mk hxs
        clear hxs
        generalize seenF bad caps (ys.map Item.val) = xs at *
        gi_loopw [13, 56] (fun v13 v56 wr => ∃ p : Nat, v56 = .int .i64 p ∧ p ≤ 500 ∧ v13 = .bool (enF xs need p) ∧ Aside0 (Below W.heap.size W wr)) (fun _ v _ => 500 - (intOf v).toNat)
        case atStart => exact ⟨0, rfl, by omega, rfl, ⟨Below.refl _ _⟩⟩
        case round =>
          obtain ⟨p, rfl, hp, rfl, HB⟩ := hrel
          by_cases hlt : p < 500
          · have hidx := index110 C xs HC1.out HC2.out p hlt
            have HEN := Aside0.mk (show enF xs need (p + 1) = (enF xs need p || decide (need ≤ (cntF xs p 12 : Int))) from rfl)
            gi_wp2
            clear hidx
            gi_loopw [18, 60] (fun v18 v60 w5 => ∃ h : Nat, v60 = .int .i64 h ∧ h ≤ 12 ∧ v18 = .int .i64 (cntF xs p h) ∧ Aside0 (Below W.heap.size W w5)) (fun _ v _ => 12 - (intOf v).toNat)
            case atStart => exact ⟨0, rfl, by omega, rfl, ⟨below_alloc HB.out _⟩⟩
            case round =>
              clear HB
              obtain ⟨h, rfl, hh, rfl, HB⟩ := hrel
              by_cases hlh : h < 12
              · have hidx2 := index109 xs p h hlh
                have hcn := cntF_le xs p h
                have HCN := Aside0.mk (show cntF xs p (h + 1) = cntF xs p h + if holF xs p h = true then 1 else 0 from rfl)
                generalize cntF xs p h = q at *
                cases hb : holF xs p h with
                | true =>
                  rw [hb] at hidx2
                  rw [hb, if_pos rfl] at HCN
                  clear hb
                  gi_wp2
                  go_roundw
                  case rel => exact ⟨h + 1, by go_num, by omega, by rw [HCN.out]; go_num, HB⟩
                  case measure => simp [intOf]; omega
                | false =>
                  rw [hb] at hidx2
                  rw [hb, if_neg (by simp), Nat.add_zero] at HCN
                  clear hb
                  gi_wp2
                  go_roundw
                  case rel => exact ⟨h + 1, by go_num, by omega, by rw [HCN.out]; rfl, HB⟩
                  case measure => simp [intOf]; omega
              · have hhe : h = 12 := by omega
                subst hhe
                generalize cntF xs p 12 = q at *
                cases he : enF xs need p with
                | true =>
                  rw [he, Bool.true_or] at HEN
                  clear he
                  gi_wp2
                  go_roundw
                  case rel => exact ⟨p + 1, by go_num, by omega, by rw [HEN.out], HB⟩
                  case measure => simp [intOf]; omega
                | false =>
                  rw [he, Bool.false_or] at HEN
                  clear he
                  gi_wp2
                  go_roundw
                  case rel => exact ⟨p + 1, by go_num, by omega, by rw [HEN.out], HB⟩
                  case measure => simp [intOf]; omega
          · have hpe : p = 500 := by omega
            subst hpe
            have hcv := blk_below HI.out.cov HB.out
            have K8' := blk_below (HI.out.fr.kept _ (List.mem_cons_of_mem _ (List.mem_cons_self))) HB.out
            have K9' := blk_below (HI.out.fr.kept _ (List.mem_cons_of_mem _ (List.mem_cons_of_mem _ (List.mem_cons_self)))) HB.out
            have kcv := blk_cell hcv 0
            have k8 := blk_cell K8' 0
            have k9 := blk_cell K9' 0
            have f8 := blk_frozen K8' 0
            have f9 := blk_frozen K9' 0
            have HK8 := Aside0.mk K8'
            have HK9 := Aside0.mk K9'
            have HKD := Aside0.mk (blk_below HK.out HB.out)
            have HBW := Aside0.mk (below_step HI.out.fr.bel HB.out)
            have HTB := Aside0.mk (show toldB xs need = (covF xs && enF xs need 500) by unfold toldB; rw [if_neg (by rw [HI.out.nos]; simp)])
            clear hcv K8' K9'
            cases hcv : covF xs with
            | false =>
              rw [hcv, Bool.false_and] at HTB
              rw [hcv] at kcv
              clear hcv
              have N8 := Aside0.mk (blk_far (blk_set HK8.out 0 (.bool false)) (p := ⟨w.heap.size + 1 + 1, 0, none⟩) (by simp) (.int .i64 0))
              have N9 := Aside0.mk (blk_set (blk_far HK9.out (p := ⟨w.heap.size + 1, 0, none⟩) (by simp) (.bool false)) 0 (.int .i64 0))
              have KD := ((KeepsOthers.setCell wr ⟨w.heap.size + 1, 0, none⟩ (.bool false)).trans (KeepsOthers.setCell _ ⟨w.heap.size + 1 + 1, 0, none⟩ (.int .i64 0))).same D _ HKD.out rfl
              have KD := Aside0.mk KD
              have HBF := Aside0.mk ((HBW.out.setCell (p := ⟨w.heap.size + 1, 0, none⟩) (by simp) (.bool false)).setCell (p := ⟨w.heap.size + 1 + 1, 0, none⟩) (by simp; omega) (.int .i64 0))
              clear HBW HK8 HK9 HKD
              gi_wp2
              refine ⟨by simp, .inl ⟨_, _, rfl, run_takeDeferred KD.out, ?_⟩⟩
              exact ⟨_, results_told _ _ _ _ _ _ rfl rfl (blk_cell (blk_grown N8.out (grownBy_putObj' _ _ _) (fun e => by injection e; omega)) 0) (blk_cell (blk_grown N9.out (grownBy_putObj' _ _ _) (fun e => by injection e; omega)) 0), by rw [HP2.out]; show Ending.returned (.tuple #[.bool false, .int .i64 0]) = Ending.returned (.tuple #[.bool (toldB (seenF bad caps (ofS o l)) need), .int .i64 0]); rw [← HXS.out, HTB.out], HBF.out.trans (belowK_b (w := w) (Nat.le_refl _) _ D _ _ (by omega) KD.out rfl rfl)⟩
            | true =>
              rw [hcv, Bool.true_and] at HTB
              rw [hcv] at kcv
              clear hcv
              have N8 := Aside0.mk (blk_far (blk_set HK8.out 0 (.bool (enF xs need 500))) (p := ⟨w.heap.size + 1 + 1, 0, none⟩) (by simp) (.int .i64 0))
              have N9 := Aside0.mk (blk_set (blk_far HK9.out (p := ⟨w.heap.size + 1, 0, none⟩) (by simp) (.bool (enF xs need 500))) 0 (.int .i64 0))
              have KD := ((KeepsOthers.setCell wr ⟨w.heap.size + 1, 0, none⟩ (.bool (enF xs need 500))).trans (KeepsOthers.setCell _ ⟨w.heap.size + 1 + 1, 0, none⟩ (.int .i64 0))).same D _ HKD.out rfl
              have KD := Aside0.mk KD
              have HBF := Aside0.mk ((HBW.out.setCell (p := ⟨w.heap.size + 1, 0, none⟩) (by simp) (.bool (enF xs need 500))).setCell (p := ⟨w.heap.size + 1 + 1, 0, none⟩) (by simp; omega) (.int .i64 0))
              clear HBW HK8 HK9 HKD
              gi_wp2
              refine ⟨by simp, .inl ⟨_, _, rfl, run_takeDeferred KD.out, ?_⟩⟩
              exact ⟨_, results_told _ _ _ _ _ _ rfl rfl (blk_cell (blk_grown N8.out (grownBy_putObj' _ _ _) (fun e => by injection e; omega)) 0) (blk_cell (blk_grown N9.out (grownBy_putObj' _ _ _) (fun e => by injection e; omega)) 0), by rw [HP2.out]; show Ending.returned (.tuple #[.bool (enF xs need 500), .int .i64 0]) = Ending.returned (.tuple #[.bool (toldB (seenF bad caps (ofS o l)) need), .int .i64 0]); rw [← HXS.out, HTB.out], HBF.out.trans (belowK_b (w := w) (Nat.le_refl _) _ D _ _ (by omega) KD.out rfl rfl)⟩
      case stop =>
        rintro D c' pre W hD hSp ⟨rfl, hX⟩ hK
        have h8 := hX.r8
        have h9 := hX.r9
        have HX := Aside0.mk hX
        have HKD := Aside0.mk hK
        clear hX hK
        gi_wp2
        refine ⟨by simp, .inl ⟨_, _, rfl, run_takeDeferred HKD.out, ?_⟩⟩
        obtain ⟨k, hk, hpk⟩ := hSp
        have hsrc := HX.out.src
        rw [hpk] at hsrc
        have HT := Aside0.mk (toldB_src (need := need) (seen_take hsrc))
        exact ⟨_, results_told _ _ _ _ _ _ rfl rfl (HX.out.r8.kept (grownBy_putObj' _ _ _) (fun e => by injection e; omega)).cell (HX.out.r9.kept (grownBy_putObj' _ _ _) (fun e => by injection e; omega)).cell, by rw [HP2.out]; show Ending.returned (.tuple #[.bool true, .int .i64 0]) = Ending.returned (.tuple #[.bool (toldB (seenF bad caps (ofS o l)) need), .int .i64 0]); rw [HT.out], HX.out.bel.trans (belowK_b (w := w) (Nat.le_refl _) _ D _ _ (by omega) HKD.out rfl rfl)⟩
    · have HP2 := Aside0.mk (show ToldS l o need bad caps = (false, spiedS bad caps) by rw [HP.out, if_pos hs0])
      have g0 : (spiedS bad caps != 0) = true := by simpa using hs0
      generalize spiedS bad caps = q at *
      have k8 := blk_cell K8.out 0
      have k9 := blk_cell K9.out 0
      have f8 := blk_frozen K8.out 0
      have f9 := blk_frozen K9.out 0
      have N8 := Aside0.mk (blk_far (blk_set K8.out 0 (.bool false)) (p := ⟨w.heap.size + 1 + 1, 0, none⟩) (by simp) (.int .i64 q))
      have N9 := Aside0.mk (blk_set (blk_far K9.out (p := ⟨w.heap.size + 1, 0, none⟩) (by simp) (.bool false)) 0 (.int .i64 q))
      clear hs0
      gi_wp2
      exact ⟨_, results_told _ _ _ _ _ _ rfl rfl (blk_cell N8.out 0) (blk_cell N9.out 0), by rw [HP2.out]; rfl, (HB2.out.setCell (p := ⟨w.heap.size + 1, 0, none⟩) (by simp) _).setCell (p := ⟨w.heap.size + 1 + 1, 0, none⟩) (by simp; omega) _⟩
  · have HP := Aside0.mk (show ToldS l o need bad caps = (false, askedS l o need 1 12) by unfold ToldS; rw [if_pos h0])
    have g0 : (askedS l o need 1 12 != 0) = true := by simpa using h0
    generalize askedS l o need 1 12 = q at *
    have k8 := blk_cell K8.out 0
    have k9 := blk_cell K9.out 0
    have f8 := blk_frozen K8.out 0
    have f9 := blk_frozen K9.out 0
    have N8 := Aside0.mk (blk_far (blk_set K8.out 0 (.bool false)) (p := ⟨w.heap.size + 1 + 1, 0, none⟩) (by simp) (.int .i64 q))
    have N9 := Aside0.mk (blk_set (blk_far K9.out (p := ⟨w.heap.size + 1, 0, none⟩) (by simp) (.bool false)) 0 (.int .i64 q))
    clear h0
    gi_wp2
    exact ⟨_, results_told _ _ _ _ _ _ rfl rfl (blk_cell N8.out 0) (blk_cell N9.out 0), by rw [HP.out]; rfl, (HB1.out.setCell (p := ⟨w.heap.size + 1, 0, none⟩) (by simp) _).setCell (p := ⟨w.heap.size + 1 + 1, 0, none⟩) (by simp; omega) _⟩
end Go.Proofs.Ytlelhmephibfjaa.T
