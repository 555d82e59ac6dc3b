/-
  The chapter's first example (awake).
-/
import Derived.Test.YthndgppohleclaaGreatEvE
namespace Go.Proofs.YthndgppohleclaaGreat.Ev
open Go.RowKit Go.Proofs.YthndgppohleclaaGreatW.PrintWords Go.Proofs.YthndgppohleclaaGreatW.PrintLast Go.Proofs.YthndgppohleclaaGreatW.PrintMore Go.Proofs.YthndgppohleclaaGreat.PEventsNobody
set_option linter.unusedVariables false
set_option linter.unusedSimpArgs false

def fiveL : List S50 := [⟨0, 0, 0, []⟩, ⟨0, -1, 1, []⟩, ⟨0, 1, 1, []⟩, ⟨0, 2, 0, []⟩, ⟨0, 0, 1, []⟩]
theorem five_downs : downs fiveL 2 = [(4, 0, 1), (2, 1, 1), (1, 2, 2), (3, 2, 2), (0, 0, 3)] := by decide +kernel
theorem five_ok : ∀ x ∈ fiveL, okL x := by
  intro x hx
  simp only [fiveL, List.mem_cons, List.not_mem_nil, or_false] at hx
  rcases hx with rfl | rfl | rfl | rfl | rfl <;> refine ⟨rfl, ?_, ?_, ?_, ?_, rfl⟩ <;> decide
theorem five_calls (w : World) : Calls Tryz.prog 18 #[] w fun e w' => ∃ A c, e = .returned (.slice A 5 c) ∧ Kd.C k50 w' A 5 fiveL ∧ Below w.heap.size w w' := by
  refine (quillworklaw27_five.calls fiveL w rfl).mono ?_
  rintro e v ⟨v0, rfl, hr, hb⟩
  obtain ⟨A, c, rfl, hl, hC⟩ := Kd.R_reads hr
  exact ⟨A, c, rfl, hC, hb⟩
set_option maxRecDepth 100000 in
theorem eqA (w : World) : (binOp .eql 46 (.agg #[.int .i64 4, .int .i64 0, .int .i64 1]) (.agg #[.int .i64 4, .int .i64 0, .int .i64 1])).run Tryz.prog w = .ok (.bool true) w := by kernel_rfl
set_option maxRecDepth 100000 in
theorem eqB (w : World) : (binOp .eql 46 (.agg #[.int .i64 2, .int .i64 1, .int .i64 1]) (.agg #[.int .i64 2, .int .i64 1, .int .i64 1])).run Tryz.prog w = .ok (.bool true) w := by kernel_rfl
set_option maxRecDepth 100000 in
theorem eqC (w : World) : (binOp .eql 46 (.agg #[.int .i64 1, .int .i64 2, .int .i64 2]) (.agg #[.int .i64 1, .int .i64 2, .int .i64 2])).run Tryz.prog w = .ok (.bool true) w := by kernel_rfl
set_option maxRecDepth 100000 in
theorem eqD (w : World) : (binOp .eql 46 (.agg #[.int .i64 0, .int .i64 0, .int .i64 3]) (.agg #[.int .i64 0, .int .i64 0, .int .i64 3])).run Tryz.prog w = .ok (.bool true) w := by kernel_rfl
theorem row_cell {w : World} {g : Nat} {t : TypeId} {cur : Array Value} {m : Nat} {xs : List Value} (h : w.heap[g]? = some (.cells cur t (0, 0))) (ht : cur.toList.take m = xs) (i : Nat) (hi : i < m) : w.cell? ⟨g, i, none⟩ = xs[i]? := by
  rw [blk_cell h i, ← ht, List.getElem?_take_of_lt hi, Array.getElem?_toList]
set_option maxHeartbeats 4000000 in
set_option maxRecDepth 100000 in
theorem awake_calls (w : World) : Calls Tryz.prog 7 #[] w fun e w' => e = .returned (.bool true) ∧ Below w.heap.size w w' := by
  have k1 := eqA
  have k2 := eqB
  have k3 := eqC
  have k4 := eqD
  have W0 := Aside0.mk (Below.refl w.heap.size w)
  go_enter Tryz.func7, Tryz.ntmps7
  go_wp2_with (first | (go_at_call 18; refine (five_calls _).mono ?_; intro e v hh; obtain ⟨A, c, rfl, hC, hb⟩ := hh; have HC := Aside0.mk hC; replace W0 := Aside0.mk (W0.out.trans (hb.mono W0.out.size)); clear hC hb) | (go_at_call 10; refine (order_calls fiveL _ A c HC.out (by decide)).mono ?_; intro e v2 hh; obtain ⟨vo, rfl, ho, hb⟩ := hh; rw [five_downs] at ho; obtain ⟨_, hz | ⟨g, cap, cur, rfl, hg1, hg2, hg3, _, hg5, hg6⟩⟩ := ho; (exact absurd hz.2 (by decide)); have x0 : v2.cell? ⟨g, 0, none⟩ = some (.int .i64 4) := row_cell hg2 hg6 0 (by decide); have x1 : v2.cell? ⟨g, 1, none⟩ = some (.int .i64 0) := row_cell hg2 hg6 1 (by decide); have x2 : v2.cell? ⟨g, 2, none⟩ = some (.int .i64 1) := row_cell hg2 hg6 2 (by decide); have x3 : v2.cell? ⟨g, 3, none⟩ = some (.int .i64 2) := row_cell hg2 hg6 3 (by decide); have x4 : v2.cell? ⟨g, 4, none⟩ = some (.int .i64 1) := row_cell hg2 hg6 4 (by decide); have x5 : v2.cell? ⟨g, 5, none⟩ = some (.int .i64 1) := row_cell hg2 hg6 5 (by decide); have x6 : v2.cell? ⟨g, 6, none⟩ = some (.int .i64 1) := row_cell hg2 hg6 6 (by decide); have x7 : v2.cell? ⟨g, 7, none⟩ = some (.int .i64 2) := row_cell hg2 hg6 7 (by decide); have x8 : v2.cell? ⟨g, 8, none⟩ = some (.int .i64 2) := row_cell hg2 hg6 8 (by decide); have x9 : v2.cell? ⟨g, 9, none⟩ = some (.int .i64 3) := row_cell hg2 hg6 9 (by decide); have x10 : v2.cell? ⟨g, 10, none⟩ = some (.int .i64 2) := row_cell hg2 hg6 10 (by decide); have x11 : v2.cell? ⟨g, 11, none⟩ = some (.int .i64 2) := row_cell hg2 hg6 11 (by decide); have x12 : v2.cell? ⟨g, 12, none⟩ = some (.int .i64 0) := row_cell hg2 hg6 12 (by decide); have x13 : v2.cell? ⟨g, 13, none⟩ = some (.int .i64 0) := row_cell hg2 hg6 13 (by decide); have x14 : v2.cell? ⟨g, 14, none⟩ = some (.int .i64 3) := row_cell hg2 hg6 14 (by decide); replace W0 := Aside0.mk (W0.out.trans (hb.mono W0.out.size)); clear hb HC hg1 hg2 hg3 hg5 hg6) | (go_at_call 8; refine (may_calls fiveL five_ok A c _ HC.out).mono ?_; intro e v5 hh; obtain ⟨rfl, hb⟩ := hh; replace W0 := Aside0.mk (W0.out.trans (hb.mono W0.out.size)); clear hb))
  go_ret
  exact ⟨rfl, W0.out⟩
end Go.Proofs.YthndgppohleclaaGreat.Ev
