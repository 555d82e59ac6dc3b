/-
  Words for the walks: 'append' kept shut; a nil slice against nil.
-/
import Derived.Test.YthndgppohleclaaGreatEvB
namespace Go.Proofs.YthndgppohleclaaGreat.Ev
open Go.RowKit Go.Proofs.YthndgppohleclaaGreatW.PrintWords Go.Proofs.YthndgppohleclaaGreatW.PrintLast Go.Proofs.YthndgppohleclaaGreatW.PrintMore Go.Proofs.YthndgppohleclaaGreat.PEventsNobody
set_option linter.unusedVariables false

/-- 'append' kept shut: a text that bears 'attribute [local go_sem ↓ high] hide_append' meets each append by an arm, not by the walk's own run. -/
def hAppend (ats : Array TypeId) (ty : TypeId) (args : Array Value) : Sem Value := Builtin.append_ ats ty args
theorem hide_append (ats : Array TypeId) (ty : TypeId) (cs : Array Bool) (args : Array Value) : builtin .append ats ty cs args = (do pure (.value (← hAppend ats ty args))) := rfl
set_option maxRecDepth 100000 in
theorem eq_nil85 (w : World) : (binOp .eql 85 (.slice none 0 0) (.slice none 0 0)).run Tryz.prog w = .ok (.bool true) w := by kernel_rfl
theorem row1 {w1 : World} {q B : Nat} {e : TypeId} {v1 : Value} {xs : List Value} (h : w1.ownsRow q e 1 v1 1 xs) (hat : v1.ownBlock = none ∨ ∃ b, v1.ownBlock = some b ∧ B ≤ b) :
    ∃ g cap cur, v1 = .slice (some ⟨g, 0, none⟩) 1 cap ∧ B ≤ g ∧ w1.heap[g]? = some (.cells cur e (0, 0)) ∧ 1 ≤ cap ∧ cur.size = cap := by
  obtain ⟨_, h1 | ⟨g, cap, cur, rfl, _, h2, h3, _, h4, _⟩⟩ := h
  · omega
  · refine ⟨g, cap, cur, rfl, ?_, h2, h3, by omega⟩
    rcases hat with hat | ⟨b, hb, hB⟩
    · simp [Value.ownBlock] at hat
    · simp [Value.ownBlock] at hb
      omega
/-- What stands while a node is laid into its tree: q the tree's block, p the node's data, g the row of nodes. -/
def SA (w : World) (q p g cap : Nat) (u : World) : Prop :=
  Below q w u ∧ u.heap[q]? = some (.cells #[.int .i64 5, .int .i64 2, .int .i64 0, .slice (some ⟨g, 0, none⟩) 1 cap] 83 (0, 0)) ∧ u.heap[p]? = some (.cells #[.int .i64 1, .slice none 0 0, .string ⟨#[]⟩] 87 (0, 0)) ∧ ∃ cur, u.heap[g]? = some (.cells cur 88 (0, 0)) ∧ 1 ≤ cur.size
section
variable {w u : World} {q p g cap : Nat}
theorem SA.alloc (h : SA w q p g cap u) (o : Obj) : SA w q p g cap (u.alloc o) := by
  obtain ⟨h1, h2, h3, cur, h4, h5⟩ := h
  exact ⟨h1.alloc (Nat.le_of_lt (blk_lt h2)) o, blk_alloc h2 o, blk_alloc h3 o, cur, blk_alloc h4 o, h5⟩
theorem SA.drew (h : SA w q p g cap u) : SA w q p g cap u.drew := ⟨h.1.drew, h.2⟩
theorem SA.set (h : SA w q p g cap u) (hq : q < g) (hp : p ≠ g) (x : Value) : SA w q p g cap (u.setCell ⟨g, 0, none⟩ x) := by
  obtain ⟨h1, h2, h3, cur, h4, h5⟩ := h
  have k := (KeepBut.refl u g none).set_ 0 x
  exact ⟨h1.setCell (Nat.le_of_lt hq) x, k.blk h2 (Nat.ne_of_lt hq) (by simp), k.blk h3 hp (by simp), _, blk_set h4 0 x, by simpa using h5⟩
theorem SA.cells (h : SA w q p g cap u) : Aside0 (SA w q p g cap u) ∧ u.cell? ⟨q, 3, none⟩ = some (.slice (some ⟨g, 0, none⟩) 1 cap) ∧ u.cell? ⟨p, 0, none⟩ = some (.int .i64 1) ∧ u.cell? ⟨p, 1, none⟩ = some (.slice none 0 0) ∧ u.cell? ⟨p, 2, none⟩ = some (.string ⟨#[]⟩) :=
  ⟨⟨h⟩, blk_cell h.2.1 3, blk_cell h.2.2.1 0, blk_cell h.2.2.1 1, blk_cell h.2.2.1 2⟩
end
end Go.Proofs.YthndgppohleclaaGreat.Ev
