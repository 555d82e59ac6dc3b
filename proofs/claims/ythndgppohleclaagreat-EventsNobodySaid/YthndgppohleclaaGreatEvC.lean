/-
  dom.New and live.New at (5, 2).
-/
import Derived.Test.YthndgppohleclaaGreatEvW
namespace Go.Proofs.YthndgppohleclaaGreat.Ev
open Go.RowKit Go.Proofs.YthndgppohleclaaGreatW.PrintWords Go.Proofs.YthndgppohleclaaGreatW.PrintLast Go.Proofs.YthndgppohleclaaGreatW.PrintMore Go.Proofs.YthndgppohleclaaGreat.PEventsNobody
set_option linter.unusedVariables false
set_option linter.unusedSimpArgs false

attribute [local go_sem ↓ high] hide_append

theorem info88 : (Tryz.prog.info? 88).map (fun i => (i.zero, i.size, i.bytes)) = some (some (.pointer none), 1, 8) := by kernel_rfl
set_option maxRecDepth 100000 in
theorem cloneAttr_nil (w : World) : Calls Tryz.prog 31 #[.slice none 0 0] w fun e w' => e = .returned (.slice none 0 0) ∧ w' = w := by
  go_enter Tryz.func31, Tryz.ntmps31
  have h := eq_nil85
  go_wp2
  go_ret
  exact ⟨rfl, rfl⟩
theorem idxNode_nil (w : World) (f : Value) : Calls Tryz.prog 32 #[.slice none 0 0, f] w fun e w' => e = .returned (.int .i64 (-1)) ∧ w' = w := by
  go_enter Tryz.func32, Tryz.ntmps32
  go_wp2
  go_loopw [8] (fun v8 wr => v8 = .int .i64 0 ∧ wr = w) (fun _ _ => 0)
  case atStart => exact ⟨rfl, rfl⟩
  case round =>
    obtain ⟨rfl, rfl⟩ := hrel
    go_wp2
    go_ret
    exact ⟨rfl, rfl⟩
set_option maxHeartbeats 4000000 in
set_option maxRecDepth 100000 in
theorem add_calls (q : Nat) (w : World) (hq : w.heap[q]? = some (.cells #[.int .i64 5, .int .i64 2, .int .i64 0, .slice none 0 0] 83 (0, 0))) :
    Calls Tryz.prog 25 #[.pointer (some ⟨q, 0, none⟩), .agg #[.int .i64 1, .slice none 0 0, .string ⟨#[]⟩]] w fun e w' => e = .returned (.int .i64 0) ∧ Below q w w' := by
  have hlt := blk_lt hq
  have Q1 := blk_alloc hq (.cells #[.int .i64 1, .slice none 0 0, .string ⟨#[]⟩] 87)
  have x2 := blk_cell Q1 2
  have x3 := blk_cell Q1 3
  clear Q1
  go_enter Tryz.func25, Tryz.ntmps25
  go_wp2_with (first | (go_at_call 31; refine (cloneAttr_nil _).mono ?_; intro e v hh; obtain ⟨rfl, rfl⟩ := hh) | (go_at_call 32; refine (idxNode_nil _ _).mono ?_; intro e v hh; obtain ⟨rfl, hv⟩ := hh; have KQ := Aside0.mk (show v.heap[q]? = some (.cells #[.int .i64 5, .int .i64 2, .int .i64 0, .slice none 0 0] 83 (0, 0)) from by rw [hv]; exact blk_alloc hq (.cells #[.int .i64 1, .slice none 0 0, .string ⟨#[]⟩] 87)); have KB := Aside0.mk (show v.heap[w.heap.size]? = some (.cells #[.int .i64 1, .slice none 0 0, .string ⟨#[]⟩] 87 (0, 0)) from by rw [hv]; exact blk_new w (.cells #[.int .i64 1, .slice none 0 0, .string ⟨#[]⟩] 87)); have HB := Aside0.mk (show Below q w v from by rw [hv]; exact (Below.refl q w).alloc (Nat.le_of_lt hlt) (.cells #[.int .i64 1, .slice none 0 0, .string ⟨#[]⟩] 87)); have HS := Aside0.mk (show w.heap.size < v.heap.size from blk_lt KB.out); clear hv x2 x3; have x3 : v.cell? ⟨q, 3, none⟩ = some (.slice none 0 0) := blk_cell KQ.out 3) | ((with_reducible refine gate_builtin (b := .append) (xs := #[.tmp 26, .tmp 27]) rfl ?_); refine print_append (w0 := w) q rfl (.tmp 26) (.tmp 27) 81 88 (.pointer none) 8 rfl Tryz.underlying81 info88 rfl (by omega) (.slice none 0 0) [] (.pointer none) rfl rfl rfl ⟨rfl, .inl ⟨rfl, rfl⟩⟩ HB.out (Nat.le_trans (Nat.le_of_lt hlt) (Nat.le_of_lt HS.out)) (by simp) ?_; intro v1 w1 ho hb hg hat; obtain ⟨g, cap, cur, rfl, hgB, hgr, h1c, hcs⟩ := row1 ho hat; have hqg : q < g := (by have := HS.out; omega); have hpg : w.heap.size ≠ g := (by have := HS.out; omega); have KQ1 := blk_grown KQ.out hg (by simp [Value.ownBlock]); have KB1 := blk_grown KB.out hg (by simp [Value.ownBlock]); have f3 : w1.frozen? ⟨q, 3, none⟩ = false := blk_frozen KQ1 3; clear x3; have x3 : w1.cell? ⟨q, 3, none⟩ = some (.slice none 0 0) := blk_cell KQ1 3; have SS := Aside0.mk (show SA w q w.heap.size g cap (w1.setCell ⟨q, 3, none⟩ (.slice (some ⟨g, 0, none⟩) 1 cap)) from ⟨hb.setCell (Nat.le_refl _) _, blk_put KQ1 3 _ rfl, ((KeepBut.refl w1 q none).set_ 3 _).blk KB1 (Nat.ne_of_gt hlt) (by simp), cur, ((KeepBut.refl w1 q none).set_ 3 _).blk hgr (Nat.ne_of_gt hqg) (by simp), by omega⟩); clear KQ1 KB1 ho hb hg hat KQ KB HB))
  refine wp_region_noPanic ?_
  refine wp_region_held_drew (S := fun u => Aside0 (SA w q w.heap.size g cap u) ∧ u.cell? ⟨q, 3, none⟩ = some (.slice (some ⟨g, 0, none⟩) 1 cap) ∧ u.cell? ⟨w.heap.size, 0, none⟩ = some (.int .i64 1) ∧ u.cell? ⟨w.heap.size, 1, none⟩ = some (.slice none 0 0) ∧ u.cell? ⟨w.heap.size, 2, none⟩ = some (.string ⟨#[]⟩)) (by kernel_rfl) SS.out.drew.cells (fun hHeld => ?_)
  refine' wpAnyH_take (i := 0) (v := _) rfl (by kernel_rfl) (by kernel_rfl) (by kernel_rfl) (fun _ _ _ h => h) (Or.inl ⟨by rfl, ?hy0⟩) (by assumption) ?rest0
  case hy0 =>
    intro v hSw
    try dsimp only at hSw
    go_simp
    try with_reducible rfl
  try simp only [Act.put, List.getElem_toArray, List.getElem_cons_succ, List.getElem_cons_zero, List.setIfInBounds_toArray, List.set_cons_zero, List.set_cons_succ]
  refine' wpAnyH_take (i := 1) (v := _) rfl (by kernel_rfl) (by kernel_rfl) (by kernel_rfl) (fun _ _ _ h => h) (Or.inl ⟨by rfl, ?hy1⟩) (by assumption) ?rest1
  case hy1 =>
    intro v hSw
    try dsimp only at hSw
    go_simp
    try with_reducible rfl
  try simp only [Act.put, List.getElem_toArray, List.getElem_cons_succ, List.getElem_cons_zero, List.setIfInBounds_toArray, List.set_cons_zero, List.set_cons_succ]
  refine' wpAnyH_take (i := 2) (v := _) rfl (by kernel_rfl) (by kernel_rfl) (by kernel_rfl) (fun _ _ _ h => h) (Or.inl ⟨by rfl, ?hy2⟩) (by assumption) ?rest2
  case hy2 =>
    intro v hSw
    try dsimp only at hSw
    go_simp
    try with_reducible rfl
  try simp only [Act.put, List.getElem_toArray, List.getElem_cons_succ, List.getElem_cons_zero, List.setIfInBounds_toArray, List.set_cons_zero, List.set_cons_succ]
  refine' wpAnyH_take (i := 3) (v := _) rfl (by kernel_rfl) (by kernel_rfl) (by kernel_rfl) (fun _ _ _ h => h) (Or.inl ⟨by rfl, ?hy3⟩) (by assumption) ?rest3
  case hy3 =>
    intro v hSw
    try dsimp only at hSw
    go_simp
    try with_reducible rfl
  try simp only [Act.put, List.getElem_toArray, List.getElem_cons_succ, List.getElem_cons_zero, List.setIfInBounds_toArray, List.set_cons_zero, List.set_cons_succ]
  refine' wpAnyH_take (i := 4) (v := _) rfl (by kernel_rfl) (by kernel_rfl) (by kernel_rfl) (fun _ _ _ h => h) (Or.inl ⟨by rfl, ?hy4⟩) (by assumption) ?rest4
  case hy4 =>
    intro v hSw
    try dsimp only at hSw
    go_simp
    try with_reducible rfl
  try simp only [Act.put, List.getElem_toArray, List.getElem_cons_succ, List.getElem_cons_zero, List.setIfInBounds_toArray, List.set_cons_zero, List.set_cons_succ]
  refine' wpAnyH_take (i := 5) (v := _) rfl (by kernel_rfl) (by kernel_rfl) (by kernel_rfl) (fun _ _ _ h => h) (Or.inl ⟨by rfl, ?hy5⟩) (by assumption) ?rest5
  case hy5 =>
    intro v hSw
    try dsimp only at hSw
    go_simp
    try with_reducible rfl
  try simp only [Act.put, List.getElem_toArray, List.getElem_cons_succ, List.getElem_cons_zero, List.setIfInBounds_toArray, List.set_cons_zero, List.set_cons_succ]
  refine' wpAnyH_take (i := 6) (v := _) rfl (by kernel_rfl) (by kernel_rfl) (by kernel_rfl) (fun _ _ _ h => h) (Or.inl ⟨by rfl, ?hy6⟩) (by assumption) ?rest6
  case hy6 =>
    intro v hSw
    try dsimp only at hSw
    go_simp
    try with_reducible rfl
  try simp only [Act.put, List.getElem_toArray, List.getElem_cons_succ, List.getElem_cons_zero, List.setIfInBounds_toArray, List.set_cons_zero, List.set_cons_succ]
  refine wpAnyH_ready (rs := [7]) (by kernel_rfl) (by simp) ?_
  refine AllReadyH.cons rfl (fun K hK => ?_) AllReadyH.nil
  go_simp
  refine hK.out _ _ (hHeld.1.out.alloc _).cells (fun hHeld => ?_)
  clear hK K
  try simp only [Act.put, List.getElem_toArray, List.getElem_cons_succ, List.getElem_cons_zero, List.setIfInBounds_toArray, List.set_cons_zero, List.set_cons_succ]
  refine' wpAnyH_take (i := 8) (v := _) rfl (by kernel_rfl) (by kernel_rfl) (by kernel_rfl) (fun _ _ _ h => h) (Or.inl ⟨by rfl, ?hy8⟩) (by assumption) ?rest8
  case hy8 =>
    intro v hSw
    try dsimp only at hSw
    go_simp
    try with_reducible rfl
  try simp only [Act.put, List.getElem_toArray, List.getElem_cons_succ, List.getElem_cons_zero, List.setIfInBounds_toArray, List.set_cons_zero, List.set_cons_succ]
  refine wpAnyH_ready (rs := [9]) (by kernel_rfl) (by simp) ?_
  refine AllReadyH.cons rfl (fun K hK => ?_) AllReadyH.nil
  obtain ⟨cur2, hc2, hl2⟩ := hHeld.1.out.2.2.2
  have s1 := (blk_cell hc2 0).trans (Array.getElem?_eq_getElem hl2)
  have s2 := blk_frozen hc2 0
  go_simp
  refine hK.out _ _ (SA.set hHeld.1.out hqg hpg _).cells (fun hHeld => ?_)
  clear hK K
  try simp only [Act.put, List.getElem_toArray, List.getElem_cons_succ, List.getElem_cons_zero, List.setIfInBounds_toArray, List.set_cons_zero, List.set_cons_succ]
  refine wpAnyH_done (by kernel_rfl) ?_ _
  refine NoPanic.normal ?_
  have y2 := blk_cell hHeld.1.out.2.1 2
  have z2 := blk_frozen hHeld.1.out.2.1 2
  go_wp2
  go_ret
  exact ⟨rfl, hHeld.1.out.1.setCell (Nat.le_refl _) _⟩
set_option maxHeartbeats 4000000 in
set_option maxRecDepth 100000 in
theorem domNew_calls (w : World) : Calls Tryz.prog 13 #[.int .i64 5, .int .i64 2] w fun e w' => e = .returned (.tuple #[.pointer (some ⟨w.heap.size, 0, none⟩), .int .i64 0]) ∧ Below w.heap.size w w' := by
  go_enter Tryz.func13, Tryz.ntmps13
  go_wp2_with (go_at_call 25; refine (add_calls w.heap.size _ (blk_new w (.cells #[.int .i64 5, .int .i64 2, .int .i64 0, .slice none 0 0] 83))).mono ?_; intro e v hh; obtain ⟨rfl, hb⟩ := hh; have HB := Aside0.mk (((Below.refl w.heap.size w).alloc (Nat.le_refl _) _).trans hb); clear hb)
  go_ret2
  exact ⟨rfl, HB.out⟩
set_option maxHeartbeats 4000000 in
set_option maxRecDepth 100000 in
theorem liveNew_calls (w : World) : Calls Tryz.prog 5 #[.int .i64 5, .int .i64 2] w fun e w' => ∃ p q : Nat, e = .returned (.tuple #[.pointer (some ⟨p, 0, none⟩), .int .i64 0]) ∧ w'.heap[p]? = some (.cells #[.pointer (some ⟨q, 0, none⟩), .slice none 0 0] 67 (0, 0)) ∧ Below w.heap.size w w' := by
  go_enter Tryz.func5, Tryz.ntmps5
  go_wp2_with (go_at_call 13; refine (domNew_calls _).mono ?_; intro e v hh; obtain ⟨rfl, hb⟩ := hh; have HB := Aside0.mk hb; clear hb)
  go_ret2
  exact ⟨_, _, rfl, blk_new _ _, HB.out.alloc HB.out.size _⟩
end Go.Proofs.YthndgppohleclaaGreat.Ev
