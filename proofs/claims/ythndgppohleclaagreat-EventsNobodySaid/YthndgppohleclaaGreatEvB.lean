/-
  live.Tree without handles: none, is, Held; events.Way and events.Dispatch on it, and on nil.
-/
import Derived.Test.YthndgppohleclaaGreatEvA
import Derived.Laws.ResultCell
namespace Go.Proofs.YthndgppohleclaaGreat.Ev
open Go.RowKit Go.Proofs.YthndgppohleclaaGreatW.PrintWords Go.Proofs.YthndgppohleclaaGreatW.PrintLast Go.Proofs.YthndgppohleclaaGreatW.PrintMore Go.Proofs.YthndgppohleclaaGreat.PEventsNobody
set_option linter.unusedVariables false
set_option linter.unusedSimpArgs false

theorem none_nil (w : World) : Calls Tryz.prog 30 #[.pointer none] w fun e w' => e = .returned (.bool true) ∧ w' = w := by
  go_enter Tryz.func30, Tryz.ntmps30
  go_wp2
  go_ret
  exact ⟨rfl, rfl⟩
theorem none_t (p q : Nat) (w : World) (h0 : w.cell? ⟨p, 0, none⟩ = some (.pointer (some ⟨q, 0, none⟩))) :
    Calls Tryz.prog 30 #[.pointer (some ⟨p, 0, none⟩)] w fun e w' => e = .returned (.bool false) ∧ w' = w := by
  go_enter Tryz.func30, Tryz.ntmps30
  go_wp2
  go_ret
  exact ⟨rfl, rfl⟩
theorem is_nil (w : World) : Calls Tryz.prog 23 #[.pointer none, .int .i64 0] w fun e w' => e = .returned (.bool false) ∧ w' = w := by
  go_enter Tryz.func23, Tryz.ntmps23
  go_wp2_with (go_at_call 30; refine (none_nil _).mono ?_; intro e v hh; obtain ⟨rfl, rfl⟩ := hh)
  go_ret
  exact ⟨rfl, rfl⟩
theorem is_t (p q : Nat) (w : World) (h0 : w.cell? ⟨p, 0, none⟩ = some (.pointer (some ⟨q, 0, none⟩))) (h1 : w.cell? ⟨p, 1, none⟩ = some (.slice none 0 0)) :
    Calls Tryz.prog 23 #[.pointer (some ⟨p, 0, none⟩), .int .i64 0] w fun e w' => e = .returned (.bool false) ∧ w' = w := by
  go_enter Tryz.func23, Tryz.ntmps23
  go_wp2_with (go_at_call 30; refine (none_t p q _ h0).mono ?_; intro e v hh; obtain ⟨rfl, rfl⟩ := hh)
  go_ret
  exact ⟨rfl, rfl⟩
theorem held_nil (w : World) : Calls Tryz.prog 9 #[.pointer none, .int .i64 0] w fun e w' => e = .returned (.tuple #[.agg #[.int .i64 0, .int .i64 0], .bool false]) ∧ Below w.heap.size w w' := by
  go_enter Tryz.func9, Tryz.ntmps9
  go_wp2_with (go_at_call 23; refine (is_nil _).mono ?_; intro e v hh; obtain ⟨rfl, rfl⟩ := hh)
  refine bodyPost_ret (v := .tuple #[.agg #[.int .i64 0, .int .i64 0], .bool false]) (by rw [results_cell_tmp rfl]; go_simp) rfl ⟨rfl, (Below.refl _ _).alloc (Nat.le_refl _) _⟩
theorem held_t (p q : Nat) (w : World) (h0 : w.cell? ⟨p, 0, none⟩ = some (.pointer (some ⟨q, 0, none⟩))) (h1 : w.cell? ⟨p, 1, none⟩ = some (.slice none 0 0)) :
    Calls Tryz.prog 9 #[.pointer (some ⟨p, 0, none⟩), .int .i64 0] w fun e w' => e = .returned (.tuple #[.agg #[.int .i64 0, .int .i64 0], .bool false]) ∧ Below w.heap.size w w' := by
  have g0 := (World.cell?_alloc_lt w (.cells #[.int .i64 0, .int .i64 0] 39) ⟨p, 0, none⟩ (World.block_lt_of_cell? w _ h0)).trans h0
  have g1 := (World.cell?_alloc_lt w (.cells #[.int .i64 0, .int .i64 0] 39) ⟨p, 1, none⟩ (World.block_lt_of_cell? w _ h1)).trans h1
  go_enter Tryz.func9, Tryz.ntmps9
  go_wp2_with (go_at_call 23; refine (is_t p q _ g0 g1).mono ?_; intro e v hh; obtain ⟨rfl, rfl⟩ := hh)
  refine bodyPost_ret (v := .tuple #[.agg #[.int .i64 0, .int .i64 0], .bool false]) (by rw [results_cell_tmp rfl]; go_simp) rfl ⟨rfl, (Below.refl _ _).alloc (Nat.le_refl _) _⟩
theorem way_nil (w : World) : Calls Tryz.prog 6 #[.pointer none, .int .i64 0] w fun e w' => e = .returned (.slice none 0 0) ∧ Below w.heap.size w w' := by
  go_enter Tryz.func6, Tryz.ntmps6
  go_wp2_with (go_at_call 9; refine (held_nil _).mono ?_; intro e v hh; obtain ⟨rfl, hb⟩ := hh; have HB := Aside0.mk hb; clear hb)
  go_ret
  exact ⟨rfl, HB.out.alloc HB.out.size _⟩
theorem way_t (p q : Nat) (w : World) (h0 : w.cell? ⟨p, 0, none⟩ = some (.pointer (some ⟨q, 0, none⟩))) (h1 : w.cell? ⟨p, 1, none⟩ = some (.slice none 0 0)) :
    Calls Tryz.prog 6 #[.pointer (some ⟨p, 0, none⟩), .int .i64 0] w fun e w' => e = .returned (.slice none 0 0) ∧ Below w.heap.size w w' := by
  go_enter Tryz.func6, Tryz.ntmps6
  go_wp2_with (go_at_call 9; refine (held_t p q _ h0 h1).mono ?_; intro e v hh; obtain ⟨rfl, hb⟩ := hh; have HB := Aside0.mk hb; clear hb)
  go_ret
  exact ⟨rfl, HB.out.alloc HB.out.size _⟩
def ev0 : Value := .agg #[.int .i64 0, .string ⟨#[]⟩, .string ⟨#[]⟩]
def told0 : Value := .agg #[.int .i64 0, .string ⟨#[]⟩, .string ⟨#[]⟩, .slice none 0 0, .int .i64 0, .int .i64 0]
theorem dispatch_nil (w : World) : Calls Tryz.prog 4 #[.pointer none, .int .i64 0, .int .i64 0, .slice none 0 0, ev0] w fun e w' => e = .returned (.tuple #[told0, .int .i64 1]) ∧ Below w.heap.size w w' := by
  unfold ev0 told0
  go_enter Tryz.func4, Tryz.ntmps4
  go_wp2
  refine bodyPost_ret (v := .tuple #[.agg #[.int .i64 0, .string ⟨#[]⟩, .string ⟨#[]⟩, .slice none 0 0, .int .i64 0, .int .i64 0], .int .i64 1]) (by rw [results_cell_tmp rfl]; go_simp) rfl ⟨rfl, ?_⟩
  exact ((Below.refl _ _).alloc (Nat.le_refl _) _).alloc (by simp) _
theorem dispatch_t (p q : Nat) (w : World) (h0 : w.cell? ⟨p, 0, none⟩ = some (.pointer (some ⟨q, 0, none⟩))) (h1 : w.cell? ⟨p, 1, none⟩ = some (.slice none 0 0)) :
    Calls Tryz.prog 4 #[.pointer (some ⟨p, 0, none⟩), .int .i64 0, .int .i64 0, .slice none 0 0, ev0] w fun e w' => e = .returned (.tuple #[told0, .int .i64 1]) ∧ Below w.heap.size w w' := by
  have M := Aside0.mk (fun v => may_calls [] (by simp) none 0 v (Kd.C_nil k50 v))
  have HT := Aside0.mk (And.intro h0 h1)
  unfold ev0 told0
  clear h0 h1
  go_enter Tryz.func4, Tryz.ntmps4
  go_wp2_with (first | (go_at_call 8; refine (M.out _).mono ?_; intro e v hh; obtain ⟨rfl, hb⟩ := hh; have K1 := Aside0.mk (blk_below (blk_alloc (blk_new w (.cells #[.int .i64 0, .string ⟨#[]⟩, .string ⟨#[]⟩] 23)) (.cells #[.int .i64 0, .string ⟨#[]⟩, .string ⟨#[]⟩, .slice none 0 0, .int .i64 0, .int .i64 0] 26)) hb); have K2 := Aside0.mk (blk_below (show ((w.alloc (.cells #[.int .i64 0, .string ⟨#[]⟩, .string ⟨#[]⟩] 23)).alloc (.cells #[.int .i64 0, .string ⟨#[]⟩, .string ⟨#[]⟩, .slice none 0 0, .int .i64 0, .int .i64 0] 26)).heap[w.heap.size + 1]? = some (.cells #[.int .i64 0, .string ⟨#[]⟩, .string ⟨#[]⟩, .slice none 0 0, .int .i64 0, .int .i64 0] 26) from by have := blk_new (w.alloc (.cells #[.int .i64 0, .string ⟨#[]⟩, .string ⟨#[]⟩] 23)) (.cells #[.int .i64 0, .string ⟨#[]⟩, .string ⟨#[]⟩, .slice none 0 0, .int .i64 0, .int .i64 0] 26); simpa using this) hb); have H1 := Aside0.mk ((((Below.refl w.heap.size w).alloc (Nat.le_refl _) (.cells #[.int .i64 0, .string ⟨#[]⟩, .string ⟨#[]⟩] 23)).alloc (by simp) (.cells #[.int .i64 0, .string ⟨#[]⟩, .string ⟨#[]⟩, .slice none 0 0, .int .i64 0, .int .i64 0] 26)).trans (hb.mono (by simp; omega))); have x0 : v.cell? ⟨w.heap.size, 0, none⟩ = some (.int .i64 0) := blk_cell K1.out 0; clear hb M) | (go_at_call 9; refine (held_t p q v ((H1.out.cell (World.block_lt_of_cell? w _ HT.out.1)).trans HT.out.1) ((H1.out.cell (World.block_lt_of_cell? w _ HT.out.2)).trans HT.out.2)).mono ?_; intro e v2 hh; obtain ⟨rfl, hb⟩ := hh; replace K2 := Aside0.mk (blk_alloc (blk_below K2.out hb) (.cells #[.int .i64 0, .int .i64 0] 39)); have H2 := Aside0.mk ((H1.out.trans (hb.mono H1.out.size)).alloc (Nat.le_trans H1.out.size hb.size) (.cells #[.int .i64 0, .int .i64 0] 39)); clear hb x0) | (go_at_call 9; refine (held_t p q (v2.alloc (.cells #[.int .i64 0, .int .i64 0] 39)) ((H2.out.cell (World.block_lt_of_cell? w _ HT.out.1)).trans HT.out.1) ((H2.out.cell (World.block_lt_of_cell? w _ HT.out.2)).trans HT.out.2)).mono ?_; intro e v3 hh; obtain ⟨rfl, hb⟩ := hh; replace K2 := Aside0.mk (blk_alloc (blk_below K2.out hb) (.cells #[.int .i64 0, .int .i64 0] 39)); have H3 := Aside0.mk ((H2.out.trans (hb.mono H2.out.size)).alloc (Nat.le_trans H2.out.size hb.size) (.cells #[.int .i64 0, .int .i64 0] 39)); have y0 : (v3.alloc (.cells #[.int .i64 0, .int .i64 0] 39)).cell? ⟨w.heap.size + 1, 0, none⟩ = some (.int .i64 0) := blk_cell K2.out 0; have y1 : (v3.alloc (.cells #[.int .i64 0, .int .i64 0] 39)).cell? ⟨w.heap.size + 1, 1, none⟩ = some (.string ⟨#[]⟩) := blk_cell K2.out 1; have y2 : (v3.alloc (.cells #[.int .i64 0, .int .i64 0] 39)).cell? ⟨w.heap.size + 1, 2, none⟩ = some (.string ⟨#[]⟩) := blk_cell K2.out 2; have y3 : (v3.alloc (.cells #[.int .i64 0, .int .i64 0] 39)).cell? ⟨w.heap.size + 1, 3, none⟩ = some (.slice none 0 0) := blk_cell K2.out 3; have y4 : (v3.alloc (.cells #[.int .i64 0, .int .i64 0] 39)).cell? ⟨w.heap.size + 1, 4, none⟩ = some (.int .i64 0) := blk_cell K2.out 4; have y5 : (v3.alloc (.cells #[.int .i64 0, .int .i64 0] 39)).cell? ⟨w.heap.size + 1, 5, none⟩ = some (.int .i64 0) := blk_cell K2.out 5; have f0 : (v3.alloc (.cells #[.int .i64 0, .int .i64 0] 39)).frozen? ⟨w.heap.size + 1, 0, none⟩ = false := blk_frozen K2.out 0; have f1 : (v3.alloc (.cells #[.int .i64 0, .int .i64 0] 39)).frozen? ⟨w.heap.size + 1, 1, none⟩ = false := blk_frozen K2.out 1; have f2 : (v3.alloc (.cells #[.int .i64 0, .int .i64 0] 39)).frozen? ⟨w.heap.size + 1, 2, none⟩ = false := blk_frozen K2.out 2; have f3 : (v3.alloc (.cells #[.int .i64 0, .int .i64 0] 39)).frozen? ⟨w.heap.size + 1, 3, none⟩ = false := blk_frozen K2.out 3; have f4 : (v3.alloc (.cells #[.int .i64 0, .int .i64 0] 39)).frozen? ⟨w.heap.size + 1, 4, none⟩ = false := blk_frozen K2.out 4; have f5 : (v3.alloc (.cells #[.int .i64 0, .int .i64 0] 39)).frozen? ⟨w.heap.size + 1, 5, none⟩ = false := blk_frozen K2.out 5; clear hb))
  have K3 : (((((((v3.alloc (.cells #[.int .i64 0, .int .i64 0] 39)).setCell ⟨w.heap.size + 1, 0, none⟩ (.int .i64 0)).setCell ⟨w.heap.size + 1, 1, none⟩ (.string ⟨#[]⟩)).setCell ⟨w.heap.size + 1, 2, none⟩ (.string ⟨#[]⟩)).setCell ⟨w.heap.size + 1, 3, none⟩ (.slice none 0 0)).setCell ⟨w.heap.size + 1, 4, none⟩ (.int .i64 0)).setCell ⟨w.heap.size + 1, 5, none⟩ (.int .i64 0)).heap[w.heap.size + 1]? = some (.cells #[.int .i64 0, .string ⟨#[]⟩, .string ⟨#[]⟩, .slice none 0 0, .int .i64 0, .int .i64 0] 26) := (blk_put (blk_put (blk_put (blk_put (blk_put (blk_put K2.out 0 (.int .i64 0) rfl) 1 (.string ⟨#[]⟩) rfl) 2 (.string ⟨#[]⟩) rfl) 3 (.slice none 0 0) rfl) 4 (.int .i64 0) rfl) 5 (.int .i64 0) rfl)
  have z0 := blk_cell K3 0
  have z1 := blk_cell K3 1
  have z2 := blk_cell K3 2
  have z3 := blk_cell K3 3
  have z4 := blk_cell K3 4
  have z5 := blk_cell K3 5
  refine bodyPost_ret (v := .tuple #[.agg #[.int .i64 0, .string ⟨#[]⟩, .string ⟨#[]⟩, .slice none 0 0, .int .i64 0, .int .i64 0], .int .i64 1]) (by rw [results_cell_tmp rfl]; go_simp) rfl ⟨rfl, ?_⟩
  exact ((((((H3.out.setCell (by simp) _).setCell (by simp) _).setCell (by simp) _).setCell (by simp) _).setCell (by simp) _).setCell (by simp) _)
end Go.Proofs.YthndgppohleclaaGreat.Ev
