/- Joined by merge.py of this session: words, walks and plain laws of this claim. -/
import Derived.Test.YtbbikcmkcgoamaaDoorMkuM3
import Derived.Test.YtbbikcmkcgoamaaDoorMkuM7
import Derived.WalkSpells
import Derived.Outline
import Derived.StillTailTactics
import Derived.Test.YtbbikcmkcgoamaaDoorMkuM5
set_option linter.unusedSimpArgs false
set_option linter.unusedVariables false
namespace Go.Proofs.YtbbikcmkcgoamaaDoor.Pp
open Go.RowKit Go.Proofs.YtbbikcmkcgoamaaDoorW.PrintWords Go.Proofs.YtbbikcmkcgoamaaDoorW.PrintLast Go.Proofs.YtbbikcmkcgoamaaDoorW.PrintMore Go.Proofs.YtbbikcmkcgoamaaDoor.My
def tagRows : List (List ByteArray × Int) := [([], 1), ([⟨#[100, 105, 118]⟩], 2), ([⟨#[112]⟩], 3), ([⟨#[104, 49]⟩], 3), ([⟨#[104, 50]⟩], 3), ([⟨#[104, 51]⟩], 3), ([⟨#[98, 108, 111, 99, 107, 113, 117, 111, 116, 101]⟩], 2), ([⟨#[117, 108]⟩], 2), ([⟨#[111, 108]⟩], 2), ([⟨#[108, 105]⟩], 3), ([⟨#[97]⟩], 4), ([⟨#[98]⟩, ⟨#[115, 116, 114, 111, 110, 103]⟩], 4), ([⟨#[105]⟩, ⟨#[101, 109]⟩], 4), ([⟨#[117]⟩, ⟨#[105, 110, 115]⟩], 4), ([⟨#[115]⟩, ⟨#[115, 116, 114, 105, 107, 101]⟩, ⟨#[100, 101, 108]⟩], 4), ([⟨#[115, 112, 97, 110]⟩], 4), ([⟨#[98, 114]⟩], 5)]
def tnames (t : Int) : List ByteArray := if 0 ≤ t ∧ t ≤ 16 then (tagRows.getD t.toNat ([], 0)).1 else []
def tclass (t : Int) : Int := if 0 ≤ t ∧ t ≤ 16 then (tagRows.getD t.toNat ([], 0)).2 else 0
def tname (t : Int) : ByteArray := (tnames t).headD ⟨#[]⟩
def tabCells (N : Nat) : Array Value := #[.slice none 0 0, .int .i64 1, .slice (some ⟨N + 1, 0, none⟩) 1 1, .int .i64 2, .slice (some ⟨N + 2, 0, none⟩) 1 1, .int .i64 3, .slice (some ⟨N + 3, 0, none⟩) 1 1, .int .i64 3, .slice (some ⟨N + 4, 0, none⟩) 1 1, .int .i64 3, .slice (some ⟨N + 5, 0, none⟩) 1 1, .int .i64 3, .slice (some ⟨N + 6, 0, none⟩) 1 1, .int .i64 2, .slice (some ⟨N + 7, 0, none⟩) 1 1, .int .i64 2, .slice (some ⟨N + 8, 0, none⟩) 1 1, .int .i64 2, .slice (some ⟨N + 9, 0, none⟩) 1 1, .int .i64 3, .slice (some ⟨N + 10, 0, none⟩) 1 1, .int .i64 4, .slice (some ⟨N + 11, 0, none⟩) 2 2, .int .i64 4, .slice (some ⟨N + 12, 0, none⟩) 2 2, .int .i64 4, .slice (some ⟨N + 13, 0, none⟩) 2 2, .int .i64 4, .slice (some ⟨N + 14, 0, none⟩) 3 3, .int .i64 4, .slice (some ⟨N + 15, 0, none⟩) 1 1, .int .i64 4, .slice (some ⟨N + 16, 0, none⟩) 1 1, .int .i64 5]
def tabZero : Array Value := #[.slice none 0 0, .int .i64 0, .slice none 0 0, .int .i64 0, .slice none 0 0, .int .i64 0, .slice none 0 0, .int .i64 0, .slice none 0 0, .int .i64 0, .slice none 0 0, .int .i64 0, .slice none 0 0, .int .i64 0, .slice none 0 0, .int .i64 0, .slice none 0 0, .int .i64 0, .slice none 0 0, .int .i64 0, .slice none 0 0, .int .i64 0, .slice none 0 0, .int .i64 0, .slice none 0 0, .int .i64 0, .slice none 0 0, .int .i64 0, .slice none 0 0, .int .i64 0, .slice none 0 0, .int .i64 0, .slice none 0 0, .int .i64 0]
def tabObjs : List Obj := [.cells tabZero 75, .cells #[Value.string ⟨#[100, 105, 118]⟩] 9, .cells #[Value.string ⟨#[112]⟩] 9, .cells #[Value.string ⟨#[104, 49]⟩] 9, .cells #[Value.string ⟨#[104, 50]⟩] 9, .cells #[Value.string ⟨#[104, 51]⟩] 9, .cells #[Value.string ⟨#[98, 108, 111, 99, 107, 113, 117, 111, 116, 101]⟩] 9, .cells #[Value.string ⟨#[117, 108]⟩] 9, .cells #[Value.string ⟨#[111, 108]⟩] 9, .cells #[Value.string ⟨#[108, 105]⟩] 9, .cells #[Value.string ⟨#[97]⟩] 9, .cells #[Value.string ⟨#[98]⟩, Value.string ⟨#[115, 116, 114, 111, 110, 103]⟩] 9, .cells #[Value.string ⟨#[105]⟩, Value.string ⟨#[101, 109]⟩] 9, .cells #[Value.string ⟨#[117]⟩, Value.string ⟨#[105, 110, 115]⟩] 9, .cells #[Value.string ⟨#[115]⟩, Value.string ⟨#[115, 116, 114, 105, 107, 101]⟩, Value.string ⟨#[100, 101, 108]⟩] 9, .cells #[Value.string ⟨#[115, 112, 97, 110]⟩] 9, .cells #[Value.string ⟨#[98, 114]⟩] 9]
theorem tabCells_one (N : Nat) : (tabCells N).all (·.oneCell') = true := by simp [tabCells, Value.oneCell']
def TabPost (w : World) (e : Ending) (w' : World) : Prop := e = .returned (.agg (tabCells w.heap.size)) ∧ (∀ k, 1 ≤ k → k ≤ 16 → w'.heap[w.heap.size + k]? = tabObjs[k]?) ∧ Below w.heap.size w w'
set_option maxHeartbeats 4000000 in
set_option maxRecDepth 100000 in
theorem table_calls (w : World) : Calls Tryd.prog 42 #[] w (TabPost w) := by
 have HW := Aside0.mk (rfl : w = ([] : List Obj).foldl World.alloc w); go_enter Tryd.func42, Tryd.ntmps42
 go_wp2_with (first | ((with_reducible refine gate_dst (N := 0) rfl ?_); refine chain_event ?hg (N := 0) ?hd (w := w) [] HW.out (fun n => .pointer (some ⟨n, 0, none⟩)) (.cells tabZero 75) ?hr ?_; (case hd => rfl); (case hg => rfl); (case hr => intro W' n hn; first | (go_simp; done) | (go_simp; rfl) | (subst hn; go_simp; done) | (subst hn; go_simp; rfl)); intro W0 hW; clear HW; have HW := Aside0.mk hW; clear hW) | ((with_reducible refine gate_dst (N := 2) rfl ?_); refine chain_event ?hg (N := 2) ?hd (w := w) [.cells tabZero 75] HW.out (fun n => .slice (some ⟨n, 0, none⟩) 1 1) (.cells #[Value.string ⟨#[100, 105, 118]⟩] 9) ?hr ?_; (case hd => rfl); (case hg => rfl); (case hr => intro W' n hn; first | (go_simp; done) | (go_simp; rfl) | (subst hn; go_simp; done) | (subst hn; go_simp; rfl)); intro W1 hW; clear HW; have HW := Aside0.mk hW; clear hW) | ((with_reducible refine gate_dst (N := 4) rfl ?_); refine chain_event ?hg (N := 4) ?hd (w := w) [.cells tabZero 75, .cells #[Value.string ⟨#[100, 105, 118]⟩] 9] HW.out (fun n => .slice (some ⟨n, 0, none⟩) 1 1) (.cells #[Value.string ⟨#[112]⟩] 9) ?hr ?_; (case hd => rfl); (case hg => rfl); (case hr => intro W' n hn; first | (go_simp; done) | (go_simp; rfl) | (subst hn; go_simp; done) | (subst hn; go_simp; rfl)); intro W2 hW; clear HW; have HW := Aside0.mk hW; clear hW) | ((with_reducible refine gate_dst (N := 6) rfl ?_); refine chain_event ?hg (N := 6) ?hd (w := w) [.cells tabZero 75, .cells #[Value.string ⟨#[100, 105, 118]⟩] 9, .cells #[Value.string ⟨#[112]⟩] 9] HW.out (fun n => .slice (some ⟨n, 0, none⟩) 1 1) (.cells #[Value.string ⟨#[104, 49]⟩] 9) ?hr ?_; (case hd => rfl); (case hg => rfl); (case hr => intro W' n hn; first | (go_simp; done) | (go_simp; rfl) | (subst hn; go_simp; done) | (subst hn; go_simp; rfl)); intro W3 hW; clear HW; have HW := Aside0.mk hW; clear hW) | ((with_reducible refine gate_dst (N := 8) rfl ?_); refine chain_event ?hg (N := 8) ?hd (w := w) [.cells tabZero 75, .cells #[Value.string ⟨#[100, 105, 118]⟩] 9, .cells #[Value.string ⟨#[112]⟩] 9, .cells #[Value.string ⟨#[104, 49]⟩] 9] HW.out (fun n => .slice (some ⟨n, 0, none⟩) 1 1) (.cells #[Value.string ⟨#[104, 50]⟩] 9) ?hr ?_; (case hd => rfl); (case hg => rfl); (case hr => intro W' n hn; first | (go_simp; done) | (go_simp; rfl) | (subst hn; go_simp; done) | (subst hn; go_simp; rfl)); intro W4 hW; clear HW; have HW := Aside0.mk hW; clear hW) | ((with_reducible refine gate_dst (N := 10) rfl ?_); refine chain_event ?hg (N := 10) ?hd (w := w) [.cells tabZero 75, .cells #[Value.string ⟨#[100, 105, 118]⟩] 9, .cells #[Value.string ⟨#[112]⟩] 9, .cells #[Value.string ⟨#[104, 49]⟩] 9, .cells #[Value.string ⟨#[104, 50]⟩] 9] HW.out (fun n => .slice (some ⟨n, 0, none⟩) 1 1) (.cells #[Value.string ⟨#[104, 51]⟩] 9) ?hr ?_; (case hd => rfl); (case hg => rfl); (case hr => intro W' n hn; first | (go_simp; done) | (go_simp; rfl) | (subst hn; go_simp; done) | (subst hn; go_simp; rfl)); intro W5 hW; clear HW; have HW := Aside0.mk hW; clear hW) | ((with_reducible refine gate_dst (N := 12) rfl ?_); refine chain_event ?hg (N := 12) ?hd (w := w) [.cells tabZero 75, .cells #[Value.string ⟨#[100, 105, 118]⟩] 9, .cells #[Value.string ⟨#[112]⟩] 9, .cells #[Value.string ⟨#[104, 49]⟩] 9, .cells #[Value.string ⟨#[104, 50]⟩] 9, .cells #[Value.string ⟨#[104, 51]⟩] 9] HW.out (fun n => .slice (some ⟨n, 0, none⟩) 1 1) (.cells #[Value.string ⟨#[98, 108, 111, 99, 107, 113, 117, 111, 116, 101]⟩] 9) ?hr ?_; (case hd => rfl); (case hg => rfl); (case hr => intro W' n hn; first | (go_simp; done) | (go_simp; rfl) | (subst hn; go_simp; done) | (subst hn; go_simp; rfl)); intro W6 hW; clear HW; have HW := Aside0.mk hW; clear hW) | ((with_reducible refine gate_dst (N := 14) rfl ?_); refine chain_event ?hg (N := 14) ?hd (w := w) [.cells tabZero 75, .cells #[Value.string ⟨#[100, 105, 118]⟩] 9, .cells #[Value.string ⟨#[112]⟩] 9, .cells #[Value.string ⟨#[104, 49]⟩] 9, .cells #[Value.string ⟨#[104, 50]⟩] 9, .cells #[Value.string ⟨#[104, 51]⟩] 9, .cells #[Value.string ⟨#[98, 108, 111, 99, 107, 113, 117, 111, 116, 101]⟩] 9] HW.out (fun n => .slice (some ⟨n, 0, none⟩) 1 1) (.cells #[Value.string ⟨#[117, 108]⟩] 9) ?hr ?_; (case hd => rfl); (case hg => rfl); (case hr => intro W' n hn; first | (go_simp; done) | (go_simp; rfl) | (subst hn; go_simp; done) | (subst hn; go_simp; rfl)); intro W7 hW; clear HW; have HW := Aside0.mk hW; clear hW) | ((with_reducible refine gate_dst (N := 16) rfl ?_); refine chain_event ?hg (N := 16) ?hd (w := w) [.cells tabZero 75, .cells #[Value.string ⟨#[100, 105, 118]⟩] 9, .cells #[Value.string ⟨#[112]⟩] 9, .cells #[Value.string ⟨#[104, 49]⟩] 9, .cells #[Value.string ⟨#[104, 50]⟩] 9, .cells #[Value.string ⟨#[104, 51]⟩] 9, .cells #[Value.string ⟨#[98, 108, 111, 99, 107, 113, 117, 111, 116, 101]⟩] 9, .cells #[Value.string ⟨#[117, 108]⟩] 9] HW.out (fun n => .slice (some ⟨n, 0, none⟩) 1 1) (.cells #[Value.string ⟨#[111, 108]⟩] 9) ?hr ?_; (case hd => rfl); (case hg => rfl); (case hr => intro W' n hn; first | (go_simp; done) | (go_simp; rfl) | (subst hn; go_simp; done) | (subst hn; go_simp; rfl)); intro W8 hW; clear HW; have HW := Aside0.mk hW; clear hW) | ((with_reducible refine gate_dst (N := 18) rfl ?_); refine chain_event ?hg (N := 18) ?hd (w := w) [.cells tabZero 75, .cells #[Value.string ⟨#[100, 105, 118]⟩] 9, .cells #[Value.string ⟨#[112]⟩] 9, .cells #[Value.string ⟨#[104, 49]⟩] 9, .cells #[Value.string ⟨#[104, 50]⟩] 9, .cells #[Value.string ⟨#[104, 51]⟩] 9, .cells #[Value.string ⟨#[98, 108, 111, 99, 107, 113, 117, 111, 116, 101]⟩] 9, .cells #[Value.string ⟨#[117, 108]⟩] 9, .cells #[Value.string ⟨#[111, 108]⟩] 9] HW.out (fun n => .slice (some ⟨n, 0, none⟩) 1 1) (.cells #[Value.string ⟨#[108, 105]⟩] 9) ?hr ?_; (case hd => rfl); (case hg => rfl); (case hr => intro W' n hn; first | (go_simp; done) | (go_simp; rfl) | (subst hn; go_simp; done) | (subst hn; go_simp; rfl)); intro W9 hW; clear HW; have HW := Aside0.mk hW; clear hW) | ((with_reducible refine gate_dst (N := 20) rfl ?_); refine chain_event ?hg (N := 20) ?hd (w := w) [.cells tabZero 75, .cells #[Value.string ⟨#[100, 105, 118]⟩] 9, .cells #[Value.string ⟨#[112]⟩] 9, .cells #[Value.string ⟨#[104, 49]⟩] 9, .cells #[Value.string ⟨#[104, 50]⟩] 9, .cells #[Value.string ⟨#[104, 51]⟩] 9, .cells #[Value.string ⟨#[98, 108, 111, 99, 107, 113, 117, 111, 116, 101]⟩] 9, .cells #[Value.string ⟨#[117, 108]⟩] 9, .cells #[Value.string ⟨#[111, 108]⟩] 9, .cells #[Value.string ⟨#[108, 105]⟩] 9] HW.out (fun n => .slice (some ⟨n, 0, none⟩) 1 1) (.cells #[Value.string ⟨#[97]⟩] 9) ?hr ?_; (case hd => rfl); (case hg => rfl); (case hr => intro W' n hn; first | (go_simp; done) | (go_simp; rfl) | (subst hn; go_simp; done) | (subst hn; go_simp; rfl)); intro W10 hW; clear HW; have HW := Aside0.mk hW; clear hW) | ((with_reducible refine gate_dst (N := 22) rfl ?_); refine chain_event ?hg (N := 22) ?hd (w := w) [.cells tabZero 75, .cells #[Value.string ⟨#[100, 105, 118]⟩] 9, .cells #[Value.string ⟨#[112]⟩] 9, .cells #[Value.string ⟨#[104, 49]⟩] 9, .cells #[Value.string ⟨#[104, 50]⟩] 9, .cells #[Value.string ⟨#[104, 51]⟩] 9, .cells #[Value.string ⟨#[98, 108, 111, 99, 107, 113, 117, 111, 116, 101]⟩] 9, .cells #[Value.string ⟨#[117, 108]⟩] 9, .cells #[Value.string ⟨#[111, 108]⟩] 9, .cells #[Value.string ⟨#[108, 105]⟩] 9, .cells #[Value.string ⟨#[97]⟩] 9] HW.out (fun n => .slice (some ⟨n, 0, none⟩) 2 2) (.cells #[Value.string ⟨#[98]⟩, Value.string ⟨#[115, 116, 114, 111, 110, 103]⟩] 9) ?hr ?_; (case hd => rfl); (case hg => rfl); (case hr => intro W' n hn; first | (go_simp; done) | (go_simp; rfl) | (subst hn; go_simp; done) | (subst hn; go_simp; rfl)); intro W11 hW; clear HW; have HW := Aside0.mk hW; clear hW) | ((with_reducible refine gate_dst (N := 24) rfl ?_); refine chain_event ?hg (N := 24) ?hd (w := w) [.cells tabZero 75, .cells #[Value.string ⟨#[100, 105, 118]⟩] 9, .cells #[Value.string ⟨#[112]⟩] 9, .cells #[Value.string ⟨#[104, 49]⟩] 9, .cells #[Value.string ⟨#[104, 50]⟩] 9, .cells #[Value.string ⟨#[104, 51]⟩] 9, .cells #[Value.string ⟨#[98, 108, 111, 99, 107, 113, 117, 111, 116, 101]⟩] 9, .cells #[Value.string ⟨#[117, 108]⟩] 9, .cells #[Value.string ⟨#[111, 108]⟩] 9, .cells #[Value.string ⟨#[108, 105]⟩] 9, .cells #[Value.string ⟨#[97]⟩] 9, .cells #[Value.string ⟨#[98]⟩, Value.string ⟨#[115, 116, 114, 111, 110, 103]⟩] 9] HW.out (fun n => .slice (some ⟨n, 0, none⟩) 2 2) (.cells #[Value.string ⟨#[105]⟩, Value.string ⟨#[101, 109]⟩] 9) ?hr ?_; (case hd => rfl); (case hg => rfl); (case hr => intro W' n hn; first | (go_simp; done) | (go_simp; rfl) | (subst hn; go_simp; done) | (subst hn; go_simp; rfl)); intro W12 hW; clear HW; have HW := Aside0.mk hW; clear hW) | ((with_reducible refine gate_dst (N := 26) rfl ?_); refine chain_event ?hg (N := 26) ?hd (w := w) [.cells tabZero 75, .cells #[Value.string ⟨#[100, 105, 118]⟩] 9, .cells #[Value.string ⟨#[112]⟩] 9, .cells #[Value.string ⟨#[104, 49]⟩] 9, .cells #[Value.string ⟨#[104, 50]⟩] 9, .cells #[Value.string ⟨#[104, 51]⟩] 9, .cells #[Value.string ⟨#[98, 108, 111, 99, 107, 113, 117, 111, 116, 101]⟩] 9, .cells #[Value.string ⟨#[117, 108]⟩] 9, .cells #[Value.string ⟨#[111, 108]⟩] 9, .cells #[Value.string ⟨#[108, 105]⟩] 9, .cells #[Value.string ⟨#[97]⟩] 9, .cells #[Value.string ⟨#[98]⟩, Value.string ⟨#[115, 116, 114, 111, 110, 103]⟩] 9, .cells #[Value.string ⟨#[105]⟩, Value.string ⟨#[101, 109]⟩] 9] HW.out (fun n => .slice (some ⟨n, 0, none⟩) 2 2) (.cells #[Value.string ⟨#[117]⟩, Value.string ⟨#[105, 110, 115]⟩] 9) ?hr ?_; (case hd => rfl); (case hg => rfl); (case hr => intro W' n hn; first | (go_simp; done) | (go_simp; rfl) | (subst hn; go_simp; done) | (subst hn; go_simp; rfl)); intro W13 hW; clear HW; have HW := Aside0.mk hW; clear hW) | ((with_reducible refine gate_dst (N := 28) rfl ?_); refine chain_event ?hg (N := 28) ?hd (w := w) [.cells tabZero 75, .cells #[Value.string ⟨#[100, 105, 118]⟩] 9, .cells #[Value.string ⟨#[112]⟩] 9, .cells #[Value.string ⟨#[104, 49]⟩] 9, .cells #[Value.string ⟨#[104, 50]⟩] 9, .cells #[Value.string ⟨#[104, 51]⟩] 9, .cells #[Value.string ⟨#[98, 108, 111, 99, 107, 113, 117, 111, 116, 101]⟩] 9, .cells #[Value.string ⟨#[117, 108]⟩] 9, .cells #[Value.string ⟨#[111, 108]⟩] 9, .cells #[Value.string ⟨#[108, 105]⟩] 9, .cells #[Value.string ⟨#[97]⟩] 9, .cells #[Value.string ⟨#[98]⟩, Value.string ⟨#[115, 116, 114, 111, 110, 103]⟩] 9, .cells #[Value.string ⟨#[105]⟩, Value.string ⟨#[101, 109]⟩] 9, .cells #[Value.string ⟨#[117]⟩, Value.string ⟨#[105, 110, 115]⟩] 9] HW.out (fun n => .slice (some ⟨n, 0, none⟩) 3 3) (.cells #[Value.string ⟨#[115]⟩, Value.string ⟨#[115, 116, 114, 105, 107, 101]⟩, Value.string ⟨#[100, 101, 108]⟩] 9) ?hr ?_; (case hd => rfl); (case hg => rfl); (case hr => intro W' n hn; first | (go_simp; done) | (go_simp; rfl) | (subst hn; go_simp; done) | (subst hn; go_simp; rfl)); intro W14 hW; clear HW; have HW := Aside0.mk hW; clear hW) | ((with_reducible refine gate_dst (N := 30) rfl ?_); refine chain_event ?hg (N := 30) ?hd (w := w) [.cells tabZero 75, .cells #[Value.string ⟨#[100, 105, 118]⟩] 9, .cells #[Value.string ⟨#[112]⟩] 9, .cells #[Value.string ⟨#[104, 49]⟩] 9, .cells #[Value.string ⟨#[104, 50]⟩] 9, .cells #[Value.string ⟨#[104, 51]⟩] 9, .cells #[Value.string ⟨#[98, 108, 111, 99, 107, 113, 117, 111, 116, 101]⟩] 9, .cells #[Value.string ⟨#[117, 108]⟩] 9, .cells #[Value.string ⟨#[111, 108]⟩] 9, .cells #[Value.string ⟨#[108, 105]⟩] 9, .cells #[Value.string ⟨#[97]⟩] 9, .cells #[Value.string ⟨#[98]⟩, Value.string ⟨#[115, 116, 114, 111, 110, 103]⟩] 9, .cells #[Value.string ⟨#[105]⟩, Value.string ⟨#[101, 109]⟩] 9, .cells #[Value.string ⟨#[117]⟩, Value.string ⟨#[105, 110, 115]⟩] 9, .cells #[Value.string ⟨#[115]⟩, Value.string ⟨#[115, 116, 114, 105, 107, 101]⟩, Value.string ⟨#[100, 101, 108]⟩] 9] HW.out (fun n => .slice (some ⟨n, 0, none⟩) 1 1) (.cells #[Value.string ⟨#[115, 112, 97, 110]⟩] 9) ?hr ?_; (case hd => rfl); (case hg => rfl); (case hr => intro W' n hn; first | (go_simp; done) | (go_simp; rfl) | (subst hn; go_simp; done) | (subst hn; go_simp; rfl)); intro W15 hW; clear HW; have HW := Aside0.mk hW; clear hW) | ((with_reducible refine gate_dst (N := 32) rfl ?_); refine chain_event ?hg (N := 32) ?hd (w := w) [.cells tabZero 75, .cells #[Value.string ⟨#[100, 105, 118]⟩] 9, .cells #[Value.string ⟨#[112]⟩] 9, .cells #[Value.string ⟨#[104, 49]⟩] 9, .cells #[Value.string ⟨#[104, 50]⟩] 9, .cells #[Value.string ⟨#[104, 51]⟩] 9, .cells #[Value.string ⟨#[98, 108, 111, 99, 107, 113, 117, 111, 116, 101]⟩] 9, .cells #[Value.string ⟨#[117, 108]⟩] 9, .cells #[Value.string ⟨#[111, 108]⟩] 9, .cells #[Value.string ⟨#[108, 105]⟩] 9, .cells #[Value.string ⟨#[97]⟩] 9, .cells #[Value.string ⟨#[98]⟩, Value.string ⟨#[115, 116, 114, 111, 110, 103]⟩] 9, .cells #[Value.string ⟨#[105]⟩, Value.string ⟨#[101, 109]⟩] 9, .cells #[Value.string ⟨#[117]⟩, Value.string ⟨#[105, 110, 115]⟩] 9, .cells #[Value.string ⟨#[115]⟩, Value.string ⟨#[115, 116, 114, 105, 107, 101]⟩, Value.string ⟨#[100, 101, 108]⟩] 9, .cells #[Value.string ⟨#[115, 112, 97, 110]⟩] 9] HW.out (fun n => .slice (some ⟨n, 0, none⟩) 1 1) (.cells #[Value.string ⟨#[98, 114]⟩] 9) ?hr ?_; (case hd => rfl); (case hg => rfl); (case hr => intro W' n hn; first | (go_simp; done) | (go_simp; rfl) | (subst hn; go_simp; done) | (subst hn; go_simp; rfl)); intro W16 hW; clear HW; have HW := Aside0.mk hW; clear hW) | ((with_reducible refine gate_store (p := 0) rfl ?_); go_must (refine store_all_event ?hg 75 (.tmp 0) (.tmp 34) rfl w.heap.size tabZero 75 (tabCells w.heap.size) rfl rfl ?hb rfl (by kernel_rfl) (tabCells_one _) ?_); (case hg => rfl); (case hb => rw [HW.out]; exact chain_at w _ 0); intro WE hE0 hE1 hE2; have HE0 := Aside0.mk hE0; have HE1 := Aside0.mk hE1; have HE2 := Aside0.mk hE2; clear hE0 hE1 hE2))
 refine bodyPost_ret (results_cell_row rfl _ _ w.heap.size 75 (tabCells w.heap.size) (0, 0) (TypeDesc.array 17 68) rfl HE0.out Tryd.underlying75 rfl (by kernel_rfl)) rfl ⟨rfl, fun k h1 h2 => ?_, HE2.out _ _ (by rw [HW.out]; exact chain_below w _) (Nat.le_refl _)⟩; rw [HE1.out _ (by omega), HW.out]; exact chain_at w _ k
theorem tab_index (N : Nat) (t : Int) (h0 : 0 ≤ t) (h1 : t ≤ 16) : ∃ A c, (∀ w, (Instr.index 75 (.agg (tabCells N)) (.int .i64 t)).run Tryd.prog w = .ok (.agg #[.slice A (tnames t).length c, .int .i64 (tclass t)]) w) ∧ (tnames t).length ≤ c ∧ c ≤ 3 ∧ (tnames t = [] ∨ A = some ⟨N + t.toNat, 0, none⟩ ∧ 1 ≤ t.toNat ∧ t.toNat ≤ 16 ∧ tabObjs[t.toNat]? = some (.cells ((tnames t).map Value.string).toArray 9)) := by
 have ht : t = 0 ∨ t = 1 ∨ t = 2 ∨ t = 3 ∨ t = 4 ∨ t = 5 ∨ t = 6 ∨ t = 7 ∨ t = 8 ∨ t = 9 ∨ t = 10 ∨ t = 11 ∨ t = 12 ∨ t = 13 ∨ t = 14 ∨ t = 15 ∨ t = 16 := by omega
 rcases ht with rfl | rfl | rfl | rfl | rfl | rfl | rfl | rfl | rfl | rfl | rfl | rfl | rfl | rfl | rfl | rfl | rfl
 ·exact ⟨none, 0, fun _ => by kernel_rfl, by decide, by decide, .inl rfl⟩
 ·exact ⟨some ⟨N + 1, 0, none⟩, 1, fun _ => by kernel_rfl, by decide, by decide, .inr ⟨rfl, by decide, by decide, rfl⟩⟩
 ·exact ⟨some ⟨N + 2, 0, none⟩, 1, fun _ => by kernel_rfl, by decide, by decide, .inr ⟨rfl, by decide, by decide, rfl⟩⟩
 ·exact ⟨some ⟨N + 3, 0, none⟩, 1, fun _ => by kernel_rfl, by decide, by decide, .inr ⟨rfl, by decide, by decide, rfl⟩⟩
 ·exact ⟨some ⟨N + 4, 0, none⟩, 1, fun _ => by kernel_rfl, by decide, by decide, .inr ⟨rfl, by decide, by decide, rfl⟩⟩
 ·exact ⟨some ⟨N + 5, 0, none⟩, 1, fun _ => by kernel_rfl, by decide, by decide, .inr ⟨rfl, by decide, by decide, rfl⟩⟩
 ·exact ⟨some ⟨N + 6, 0, none⟩, 1, fun _ => by kernel_rfl, by decide, by decide, .inr ⟨rfl, by decide, by decide, rfl⟩⟩
 ·exact ⟨some ⟨N + 7, 0, none⟩, 1, fun _ => by kernel_rfl, by decide, by decide, .inr ⟨rfl, by decide, by decide, rfl⟩⟩
 ·exact ⟨some ⟨N + 8, 0, none⟩, 1, fun _ => by kernel_rfl, by decide, by decide, .inr ⟨rfl, by decide, by decide, rfl⟩⟩
 ·exact ⟨some ⟨N + 9, 0, none⟩, 1, fun _ => by kernel_rfl, by decide, by decide, .inr ⟨rfl, by decide, by decide, rfl⟩⟩
 ·exact ⟨some ⟨N + 10, 0, none⟩, 1, fun _ => by kernel_rfl, by decide, by decide, .inr ⟨rfl, by decide, by decide, rfl⟩⟩
 ·exact ⟨some ⟨N + 11, 0, none⟩, 2, fun _ => by kernel_rfl, by decide, by decide, .inr ⟨rfl, by decide, by decide, rfl⟩⟩
 ·exact ⟨some ⟨N + 12, 0, none⟩, 2, fun _ => by kernel_rfl, by decide, by decide, .inr ⟨rfl, by decide, by decide, rfl⟩⟩
 ·exact ⟨some ⟨N + 13, 0, none⟩, 2, fun _ => by kernel_rfl, by decide, by decide, .inr ⟨rfl, by decide, by decide, rfl⟩⟩
 ·exact ⟨some ⟨N + 14, 0, none⟩, 3, fun _ => by kernel_rfl, by decide, by decide, .inr ⟨rfl, by decide, by decide, rfl⟩⟩
 ·exact ⟨some ⟨N + 15, 0, none⟩, 1, fun _ => by kernel_rfl, by decide, by decide, .inr ⟨rfl, by decide, by decide, rfl⟩⟩
 ·exact ⟨some ⟨N + 16, 0, none⟩, 1, fun _ => by kernel_rfl, by decide, by decide, .inr ⟨rfl, by decide, by decide, rfl⟩⟩
theorem strs_C {w : World} {g : Nat} {ty : TypeId} {xs : List ByteArray} (h : w.heap[g]? = some (.cells (xs.map Value.string).toArray ty)) (hl : xs.length ≤ 9223372036854775807) : Kd.string.C w (some ⟨g, 0, none⟩) xs.length xs :=
 ⟨rfl, hl, fun _ => ⟨_, rfl, fun j p hj => ⟨[.string p], rfl, rfl, fun i u hu => by
   match i, hu with
   | 0, hu =>
    simp at hu
    subst hu; show w.cell? ((⟨g, 0, none⟩ : Addr).add (j * 1 + 0)) = _
    rw [add_plain, cell_of_row w g _ _ ty (0, 0) h]; simp [hj]⟩⟩⟩
theorem strs_nil (w : World) (A : Option Addr) : Kd.string.C w A 0 [] := ⟨rfl, by omega, fun h => absurd h (by omega)⟩
def OfPost (t : Int) (w : World) (e : Ending) (w' : World) : Prop := ∃ A c, e = .returned (.agg #[.slice A (tnames t).length c, .int .i64 (tclass t)]) ∧ (tnames t).length ≤ c ∧ Kd.string.C w' A (tnames t).length (tnames t) ∧ Below w.heap.size w w'
set_option maxHeartbeats 4000000 in
set_option maxRecDepth 100000 in
theorem of_out (t : Int) (w : World) (ht : t < 0 ∨ 16 < t) : Calls Tryd.prog 35 #[.int .i64 t] w (OfPost t w) := by
 have e1 : tnames t = [] := by unfold tnames; rw [if_neg (by omega)]
 have e2 : tclass t = 0 := by unfold tclass; rw [if_neg (by omega)]
 have E1 := Aside0.mk e1; have E2 := Aside0.mk e2; clear e1 e2; rcases ht with ht | ht
 all_goals
  have HB := Aside0.mk (Below.refl w.heap.size w); go_enter Tryd.func35, Tryd.ntmps35
  go_wp2_with (first | ((with_reducible refine gate_dst (N := 2) rfl ?_); refine box_event ?hg (N := 2) ?hd (cs := #[.slice none 0 0, .int .i64 0]) (t := 68) ?hr ?_; (case hd => rfl); (case hg => rfl); (case hr => first | (go_simp; done) | (go_simp; rfl)); intro g hgs w1 hbox hb; have BK := Aside0.mk hbox; have HB1 := Aside0.mk hb; have GE := Aside0.mk (by rw [hgs]; exact Nat.le_refl _ : w.heap.size ≤ g); clear hb hbox hgs) | ((with_reducible refine gate_store (p := 2) rfl ?_); go_must (refine store_all_event ?hg 68 (.tmp 2) (.tmp 9) rfl g #[.slice none 0 0, .int .i64 0] 68 #[.slice none 0 0, .int .i64 0] rfl rfl BK.out rfl (by kernel_rfl) (by simp [Value.oneCell']) ?_); (case hg => rfl); intro WE hE0 hE1 hE2; have HE0 := Aside0.mk hE0; have HE1 := Aside0.mk hE1; have HE2 := Aside0.mk hE2; clear hE0 hE1 hE2))
  refine bodyPost_ret (results_cell_row rfl _ _ g 68 #[.slice none 0 0, .int .i64 0] (0, 0) _ rfl HE0.out Tryd.underlying68 rfl (by kernel_rfl)) rfl ⟨none, 0, ?_, ?_, ?_, HE2.out _ _ HB1.out GE.out⟩; ·rw [E1.out, E2.out]; rfl
  ·rw [E1.out]; decide
  ·rw [E1.out]; exact strs_nil _ _
set_option maxHeartbeats 4000000 in
set_option maxRecDepth 100000 in
theorem of_in (t : Int) (w : World) (h0 : 0 ≤ t) (h1 : t ≤ 16) : Calls Tryd.prog 35 #[.int .i64 t] w (OfPost t w) := by
 have HB := Aside0.mk (Below.refl w.heap.size w); go_enter Tryd.func35, Tryd.ntmps35
 go_wp2_with (first | ((with_reducible refine gate_dst (N := 2) rfl ?_); refine box_event ?hg (N := 2) ?hd (cs := #[.slice none 0 0, .int .i64 0]) (t := 68) ?hr ?_; (case hd => rfl); (case hg => rfl); (case hr => first | (go_simp; done) | (go_simp; rfl)); intro g hgs w1 hbox hb; have BK := Aside0.mk hbox; have HB1 := Aside0.mk hb; have GE := Aside0.mk (by rw [hgs]; exact Nat.le_refl _ : w.heap.size ≤ g); clear hb hbox hgs) | (go_at_call 42; refine (table_calls _).mono ?_; rintro e w2 ⟨rfl, hrow, hb2⟩; obtain ⟨A, c, hix, hcap, hc3, hal⟩ := tab_index w1.heap.size t h0 h1; have BK2 := Aside0.mk (blk_below BK.out hb2); have HB2 := Aside0.mk (below_step HB1.out hb2); have HROW := Aside0.mk hrow; have HCAP := Aside0.mk hcap; have HAL := Aside0.mk hal; have HC3 := Aside0.mk hc3; have HG := Aside0.mk (blk_lt BK.out); clear hrow hb2 hcap hal hc3 BK HB1) | ((with_reducible refine gate_store (p := 2) rfl ?_); go_must (refine store_all_event ?hg 68 (.tmp 2) (.tmp 12) rfl g #[.slice none 0 0, .int .i64 0] 68 #[.slice A (tnames t).length c, .int .i64 (tclass t)] rfl rfl BK2.out rfl (by kernel_rfl) (by simp [Value.oneCell']) ?_); (case hg => rfl); intro WE hE0 hE1 hE2; have HE0 := Aside0.mk hE0; have HE1 := Aside0.mk hE1; have HE2 := Aside0.mk hE2; clear hE0 hE1 hE2))
 refine bodyPost_ret (results_cell_row rfl _ _ g 68 #[.slice A (tnames t).length c, .int .i64 (tclass t)] (0, 0) _ rfl HE0.out Tryd.underlying68 rfl (by kernel_rfl)) rfl ⟨A, c, rfl, HCAP.out, ?_, HE2.out _ _ HB2.out GE.out⟩; rcases HAL.out with hn | ⟨rfl, h2, h3, h4⟩
 ·rw [hn]; exact strs_nil _ _
 ·refine strs_C (ty := 9) ?_ (by have := HCAP.out; have := HC3.out; omega); rw [HE1.out _ (by have := HG.out; omega), HROW.out _ h2 h3]; exact h4
theorem of_calls (t : Int) (w : World) : Calls Tryd.prog 35 #[.int .i64 t] w (OfPost t w) := by
 by_cases h : 0 ≤ t ∧ t ≤ 16
 ·exact of_in t w h.1 h.2
 ·exact of_out t w (by omega)
def tags_Class.f (a0 : Int) : Option Int := some (tclass a0)
set_option maxRecDepth 100000 in
theorem tags_Class.calls (a0 : Int) (r : Int) (w : World) (h : tags_Class.f a0 = some r) : Calls Tryd.prog 27 #[.int .i64 a0] w fun e w' => e = .returned (.int .i64 r) ∧ Below w.heap.size w w' := by
 obtain rfl := Option.some.inj h; have hfd : ∀ (x y : Value) (w : World), (Instr.field 68 (.agg #[x, y]) 1).run Tryd.prog w = .ok y w := fun _ _ _ => by kernel_rfl
 go_enter Tryd.func27, Tryd.ntmps27
 go_wp2_with (go_at_call 35; refine (of_calls _ _).mono ?_; rintro e w1 ⟨A, c, rfl, hc, hC, hb⟩; have HB := Aside0.mk hb; clear hb hC hc)
 go_ret; exact ⟨rfl, HB.out⟩
def tags_Name.f (a0 : Int) : Option ByteArray := some (tname a0)
set_option maxRecDepth 100000 in
theorem tags_Name.calls (a0 : Int) (r : ByteArray) (w : World) (h : tags_Name.f a0 = some r) : Calls Tryd.prog 29 #[.int .i64 a0] w fun e w' => e = .returned (.string r) ∧ Below w.heap.size w w' := by
 obtain rfl := Option.some.inj h; unfold tname; have hfd : ∀ (x y : Value) (w : World), (Instr.field 68 (.agg #[x, y]) 0).run Tryd.prog w = .ok x w := fun _ _ _ => by kernel_rfl
 cases hn : tnames a0 with
 | nil =>
  have HN := Aside0.mk hn; clear hn; go_enter Tryd.func29, Tryd.ntmps29
  go_wp2_with (go_at_call 35; refine (of_calls _ _).mono ?_; rintro e w1 ⟨A, c, rfl, hc, hC, hb⟩; have HB := Aside0.mk hb; clear hb hC hc; rw [HN.out]; simp only [List.length_nil])
  go_ret; exact ⟨rfl, HB.out⟩
 | cons x xs =>
  have HN := Aside0.mk hn; clear hn; go_enter Tryd.func29, Tryd.ntmps29
  go_wp2_with (go_at_call 35; refine (of_calls _ _).mono ?_)
  rintro e w1 ⟨A, c, rfl, hc, hC, hb⟩; have HB := Aside0.mk hb; clear hb hc; rw [HN.out] at hC; rw [HN.out]; obtain ⟨_, _, hD⟩ := hC; obtain ⟨ad, hA, hE⟩ := hD (by simp); obtain ⟨cc, _, hcc, hF⟩ := hE 0 x rfl; subst hA; obtain rfl : cc = [.string x] := hcc; have hC1 : w1.cell? ad = some (.string x) := hF 0 _ rfl; clear hD hE hF; simp only [List.length_cons]; go_wp2; go_ret; exact ⟨rfl, HB.out⟩
def bl (s : ByteArray) : List UInt8 := s.data.toList
def attrsP : List S47 → List UInt8
 | [] => []
 | a :: l => [32] ++ bl a.f0 ++ [61, 34] ++ charsP a.f1 true ++ [34] ++ attrsP l
mutual
def nodeP : S25 → List UInt8
 | ⟨t, l, tx, ks⟩ => if tclass t = 0 then kidsP ks else if tclass t = 1 then charsP tx false else [60] ++ bl (tname t) ++ attrsP l ++ [62] ++ (if tclass t = 5 then [] else kidsP ks ++ [60, 47] ++ bl (tname t) ++ [62])
def kidsP : List S25 → List UInt8
 | [] => []
 | k :: ks => nodeP k ++ kidsP ks
end
def innerP (n : S25) : List UInt8 := if n.f0 = 0 then [] else kidsP n.f3
theorem kidsP_append : ∀ (l m : List S25), kidsP (l ++ m) = kidsP l ++ kidsP m
 | [], m => by simp [kidsP]
 | k :: l, m => by simp [kidsP, kidsP_append l m]
theorem kidsP_take (l : List S25) (i : Nat) (h : i < l.length) : kidsP (l.take (i + 1)) = kidsP (l.take i) ++ nodeP l[i] := by
 rw [List.take_succ_eq_append_getElem h, kidsP_append]; simp [kidsP]
theorem kidsP_take_le (l : List S25) (i : Nat) : (kidsP (l.take i)).length ≤ (kidsP l).length := by
 have h : kidsP l = kidsP (l.take i ++ l.drop i) := by rw [List.take_append_drop]
 rw [h, kidsP_append, List.length_append]; omega
theorem attrsP_append : ∀ (l m : List S47), attrsP (l ++ m) = attrsP l ++ attrsP m
 | [], m => by simp [attrsP]
 | k :: l, m => by simp [attrsP, attrsP_append l m]
theorem attrsP_take (l : List S47) (i : Nat) (h : i < l.length) : attrsP (l.take (i + 1)) = attrsP (l.take i) ++ ([32] ++ bl l[i].f0 ++ [61, 34] ++ charsP l[i].f1 true ++ [34]) := by
 rw [List.take_succ_eq_append_getElem h, attrsP_append]; simp [attrsP]
theorem attrsP_take_le (l : List S47) (i : Nat) : (attrsP (l.take i)).length ≤ (attrsP l).length := by
 have h : attrsP l = attrsP (l.take i ++ l.drop i) := by rw [List.take_append_drop]
 rw [h, attrsP_append, List.length_append]; omega
def nodeV (n : S25) (A1 : Option Addr) (c1 : Nat) (A3 : Option Addr) (c3 : Nat) : Value := .agg #[.int .i64 n.f0, .slice A1 n.f1.length c1, .string n.f2, .slice A3 n.f3.length c3]
def MethC (f : FuncId) (out : List UInt8) (n : S25) : Prop := ∀ (w0 w : World) (b : Nat) (bs : List UInt8) (A1 : Option Addr) (c1 : Nat) (A3 : Option Addr) (c3 : Nat),
 Kd.C k47 w0 A1 n.f1.length n.f1 → n.f1.length ≤ c1 → Kd.C k25 w0 A3 n.f3.length n.f3 → n.f3.length ≤ c3 → Below w0.heap.size w0 w → Lib.IsBuilder Bld.PT 5 w0.heap.size b (Lib.byteCells bs) w → bs.length + out.length ≤ 70368744177664 →
 Calls Tryd.prog f #[.pointer (some ⟨b, 0, none⟩), nodeV n A1 c1 A3 c3] w fun e w' => e = .returned (.tuple #[]) ∧ Wr w0.heap.size b (bs ++ out) w w'
set_option maxHeartbeats 4000000 in
set_option maxRecDepth 100000 in
theorem inner_calls (n : S25) (hk : ∀ k, k ∈ n.f3 → MethC 17 (nodeP k) k) : MethC 22 (innerP n) n := by
 intro w0 w b bs A1 c1 A3 c3 h1 l1 h3 l3 hB h hlen; unfold nodeV; have HK := Aside0.mk hk; have HI := Aside0.mk h; have H1 := Aside0.mk h1; have H3 := Aside0.mk h3; have HB := Aside0.mk hB; have L1 := Aside0.mk l1; have L3 := Aside0.mk l3; have HBS := Aside0.mk hB.size; clear hk h h1 h3 hB l1 l3; by_cases hz : n.f0 = 0
 ·have e : innerP n = [] := by unfold innerP; rw [if_pos hz]
  rw [e, List.append_nil]; clear e hlen; rw [hz]; have HZ := Aside0.mk hz; clear hz; go_enter Tryd.func22, Tryd.ntmps22
  go_wp2; have hb := (Below.refl w.heap.size w).alloc (Nat.le_refl _) (.cells #[.int .i64 0, .slice A1 n.f1.length c1, .string n.f2, .slice A3 n.f3.length c3] 25); refine bodyPost_ret (v := .tuple #[]) (by simp [results, Tryd.results22, go_sem]) rfl ?_; exact ⟨rfl, isb_moved HI.out hb, hb.mono HBS.out, kept_below hb⟩
 ·have e : innerP n = kidsP n.f3 := by unfold innerP; rw [if_neg hz]
  rw [e] at hlen ⊢; have HL := Aside0.mk hlen; have hnz : (n.f0 == 0) = false := by simp [hz]
  have H2 := H3.out.2.1; clear e hlen hz; go_enter Tryd.func22, Tryd.ntmps22
  go_wp2; go_loopw [12] (fun v12 wr => ∃ (i : Nat), v12 = .int .i64 i ∧ i ≤ n.f3.length ∧ Aside0 (Wr w0.heap.size b (bs ++ kidsP (n.f3.take i)) w wr)) (fun v12 _ => n.f3.length - (intOf v12).toNat)
  case atStart =>
   have hb := (Below.refl w.heap.size w).alloc (Nat.le_refl _) (.cells #[.int .i64 n.f0, .slice A1 n.f1.length c1, .string n.f2, .slice A3 n.f3.length c3] 25); exact ⟨0, rfl, Nat.zero_le _, ⟨by simpa [kidsP] using isb_moved HI.out hb, hb.mono HBS.out, kept_below hb⟩⟩
  case round =>
   obtain ⟨i, rfl, hi, hW⟩ := hrel; by_cases hlt : i < n.f3.length
   ·have q1 : (0 : Int) ≤ (i : Int) := by omega
    have q2 : (i : Int) < (n.f3.length : Int) := by omega
    have HBr := Aside0.mk (HB.out.trans hW.out.2.1); obtain ⟨ad, B1, d1, B3, d3, eA, hx0, hx1, hx2, hx3, m1, g1, m3, g3⟩ := at_T25 H3.out (i : Int) q1 q2; have hrd : rd_T25 n.f3 (i : Int) = n.f3[i] := by simp [rd_T25, List.getD_eq_getElem?_getD, List.getElem?_eq_getElem hlt]
    rw [hrd] at hx0 hx1 hx2 hx3 m1 g1 m3 g3; have HKi := Aside0.mk (HK.out _ (List.getElem_mem hlt)); have HT := Aside0.mk (kidsP_take n.f3 i hlt); have HTL := Aside0.mk (kidsP_take_le n.f3 (i + 1)); generalize n.f3[i] = k at *; clear hrd; simp only [Int.toNat_natCast] at hx0 hx1 hx2 hx3; subst eA; replace hx0 := (HBr.out.cell (World.block_lt_of_cell? w0 _ hx0)).trans hx0; replace hx1 := (HBr.out.cell (World.block_lt_of_cell? w0 _ hx1)).trans hx1; replace hx2 := (HBr.out.cell (World.block_lt_of_cell? w0 _ hx2)).trans hx2; replace hx3 := (HBr.out.cell (World.block_lt_of_cell? w0 _ hx3)).trans hx3; have M1 := Aside0.mk m1; have G1 := Aside0.mk g1; have M3 := Aside0.mk m3; have G3 := Aside0.mk g3; clear m1 g1 m3 g3; have hb := (Below.refl wr.heap.size wr).alloc (Nat.le_refl _) (.cells #[.int .i64 k.f0, .slice B1 k.f1.length d1, .string k.f2, .slice B3 k.f3.length d3] 25); have P1 := Aside0.mk (HBr.out.trans (hb.mono HBr.out.size)); have P2 := Aside0.mk (isb_moved hW.out.1 hb); have P3 := Aside0.mk (kept_below (b := b) hb); have P4 := Aside0.mk (show (bs ++ kidsP (n.f3.take i)).length + (nodeP k).length ≤ 70368744177664 by have h1 := HTL.out; have h2 := HL.out; rw [HT.out] at h1; rw [List.length_append] at h1 ⊢; omega); have P5 := Aside0.mk (show Below w0.heap.size wr _ from hb.mono HBr.out.size); clear hb; go_wp2_with (go_at_call 17; refine (HKi.out w0 _ b (bs ++ kidsP (n.f3.take i)) B1 d1 B3 d3 G1.out M1.out G3.out M3.out P1.out P2.out P4.out).mono ?_)
    first | (rintro e W2 ⟨rfl, h1⟩; have HW := Aside0.mk h1; clear h1) | (rintro e W2 rfl h1; have HW := Aside0.mk h1; clear h1)
    go_wp2; go_roundw
    case rel =>
     obtain ⟨r1, r2, r3⟩ := HW.out; obtain ⟨s1, s2, s3⟩ := hW.out; refine ⟨i + 1, by go_num, by omega, ⟨?_, (s2.trans P5.out).trans r2, (s3.trans P3.out).trans r3⟩⟩; rw [HT.out, ← List.append_assoc]; exact r1
    case measure => simp [intOf]; omega
   ·obtain rfl : i = n.f3.length := by omega
    have hW2 := hW.out; rw [List.take_length] at hW2; have HW := Aside0.mk hW2; clear hW2 hW; go_wp2; go_end0
    exact ⟨rfl, HW.out⟩
theorem tclass_text {t : Int} (h : tclass t = 1) : t = 0 := by
 unfold tclass at h; split at h
 ·have ht : t = 0 ∨ t = 1 ∨ t = 2 ∨ t = 3 ∨ t = 4 ∨ t = 5 ∨ t = 6 ∨ t = 7 ∨ t = 8 ∨ t = 9 ∨ t = 10 ∨ t = 11 ∨ t = 12 ∨ t = 13 ∨ t = 14 ∨ t = 15 ∨ t = 16 := by omega
  rcases ht with rfl | rfl | rfl | rfl | rfl | rfl | rfl | rfl | rfl | rfl | rfl | rfl | rfl | rfl | rfl | rfl | rfl <;> first | rfl | exact absurd h (by decide)
 ·omega
theorem tclass_zero : tclass 0 = 1 := by decide
theorem innerP_of {n : S25} (h : tclass n.f0 ≠ 1) : innerP n = kidsP n.f3 := by
 unfold innerP; rw [if_neg (fun e => h (by rw [e]; exact tclass_zero))]
theorem nodeP_none {n : S25} (h : tclass n.f0 = 0) : nodeP n = innerP n := by
 rw [innerP_of (by omega)]; cases n with
 | mk a b c d => unfold nodeP; rw [if_pos h]
theorem nodeP_text {n : S25} (h : tclass n.f0 = 1) : nodeP n = charsP n.f2 false := by
 cases n with
 | mk a b c d => unfold nodeP; rw [if_neg (show ¬ tclass a = 0 from by have : tclass a = 1 := h; omega), if_pos h]
theorem nodeP_void {n : S25} (h : tclass n.f0 = 5) : nodeP n = [60] ++ bl (tname n.f0) ++ attrsP n.f1 ++ [62] := by
 cases n with
 | mk a b c d => have h : tclass a = 5 := h; unfold nodeP; rw [if_neg (by omega), if_neg (by omega), if_pos h, List.append_nil]
theorem nodeP_else {n : S25} (h0 : tclass n.f0 ≠ 0) (h1 : tclass n.f0 ≠ 1) (h5 : tclass n.f0 ≠ 5) : nodeP n = [60] ++ bl (tname n.f0) ++ attrsP n.f1 ++ [62] ++ (innerP n ++ [60, 47] ++ bl (tname n.f0) ++ [62]) := by
 rw [innerP_of h1]; cases n with
 | mk a b c d => have g0 : tclass a ≠ 0 := h0; have g1 : tclass a ≠ 1 := h1; have g5 : tclass a ≠ 5 := h5; unfold nodeP; rw [if_neg g0, if_neg g1, if_neg g5]
theorem cells_strCells (s : ByteArray) : Lib.strCells s = Lib.byteCells (bl s) := by simp [Lib.strCells, Lib.byteCells, bl]
theorem bl_len (s : ByteArray) : (bl s).length = s.size := by simp [bl]
theorem bl_append (a b : ByteArray) : bl (a ++ b) = bl a ++ bl b := by simp [bl]
theorem tname_size (t : Int) : (tname t).size ≤ 10 := by
 unfold tname tnames; split
 ·have ht : t = 0 ∨ t = 1 ∨ t = 2 ∨ t = 3 ∨ t = 4 ∨ t = 5 ∨ t = 6 ∨ t = 7 ∨ t = 8 ∨ t = 9 ∨ t = 10 ∨ t = 11 ∨ t = 12 ∨ t = 13 ∨ t = 14 ∨ t = 15 ∨ t = 16 := by omega
  rcases ht with rfl | rfl | rfl | rfl | rfl | rfl | rfl | rfl | rfl | rfl | rfl | rfl | rfl | rfl | rfl | rfl | rfl <;> decide
 ·decide
def St (w0 w : World) (b : Nat) (cur : List UInt8) (g : Nat) (cs : Array Value) (v : World) : Prop := Wr w0.heap.size b cur w v ∧ v.heap[g]? = some (.cells cs 25 (0, 0))
theorem St.below {w0 w : World} {b : Nat} {cur : List UInt8} {g : Nat} {cs : Array Value} {v v' : World} (h : St w0 w b cur g cs v) (hB : w0.heap.size ≤ v.heap.size) (hb : Below v.heap.size v v') : St w0 w b cur g cs v' :=
 ⟨⟨isb_moved h.1.1 hb, h.1.2.1.trans (hb.mono hB), h.1.2.2.trans (kept_below hb)⟩, blk_below h.2 hb⟩
theorem isb_block {B b : Nat} {bs : List Value} {w : World} (h : Lib.IsBuilder Bld.PT 5 B b bs w) : ∃ cs, w.heap[b]? = some (.cells cs Bld.PT (0, 0)) := by
 rcases h with ⟨_, v, hb, _⟩ | ⟨_, v, hb, _⟩
 ·exact ⟨_, hb⟩
 ·exact ⟨_, hb⟩
theorem kept_blk {b g : Nat} {t : TypeId} {cs : Array Value} {B : Nat} {bs : List Value} {v v' : World} (hI : Lib.IsBuilder Bld.PT 5 B b bs v) (hg : v.heap[g]? = some (.cells cs t (0, 0))) (ht : t ≠ Bld.PT) (ht2 : t ≠ 5) (hk : Lib.OthersKept 5 (some b) v v') : v'.heap[g]? = some (.cells cs t (0, 0)) := by
 obtain ⟨c, hc⟩ := isb_block hI; refine hk g _ hg (fun e => ?_) (fun c fz e => ?_)
 ·obtain rfl := Option.some.inj e; rw [hg] at hc; injection hc with hc
  injection hc with _ hc
  exact ht hc
 ·injection e with _ e
  exact ht2 e
theorem St.wr {w0 w : World} {b : Nat} {cur cur' : List UInt8} {g : Nat} {cs : Array Value} {v v' : World} (h : St w0 w b cur g cs v) (hw : Wr w0.heap.size b cur' v v') : St w0 w b cur' g cs v' :=
 ⟨h.1.trans hw, kept_blk h.1.1 h.2 (by decide) (by decide) hw.2.2⟩
theorem St.size {w0 w : World} {b : Nat} {cur : List UInt8} {g : Nat} {cs : Array Value} {v : World} (h : St w0 w b cur g cs v) (hB : w0.heap.size ≤ w.heap.size) : w0.heap.size ≤ v.heap.size := Nat.le_trans hB h.1.2.1.size
theorem St.c {w0 w : World} {b : Nat} {cur : List UInt8} {g : Nat} {cs : Array Value} {v : World} (h : St w0 w b cur g cs v) (i : Nat) : v.cell? ⟨g, i, none⟩ = cs[i]? := blk_cell h.2 i
theorem St.ws {w0 w : World} {b : Nat} {cur : List UInt8} {g : Nat} {cs : Array Value} {v : World} (h : St w0 w b cur g cs v) (hB : w0.heap.size ≤ w.heap.size) (s : ByteArray) (hl : cur.length + (bl s).length ≤ 70368744177664) :
 Calls Tryd.prog 30 #[.pointer (some ⟨b, 0, none⟩), .string s] v fun e w' => e = .returned (.tuple #[.int .i64 s.size, .nilIface]) ∧ St w0 w b (cur ++ bl s) g cs w' ∧ Lib.OthersKept 5 (some b) v w' := by
 have e : (bl s).length = s.size := by simp [bl]
 refine (Bld.WriteString w0.heap.size b (Lib.byteCells cur) s v h.1.1 (by rw [Lib.byteCells_length]; omega) (h.size hB)).mono ?_; rintro e w' ⟨rfl, h1⟩; refine ⟨rfl, h.wr (Wr.of ?_), h1.2.2⟩; rw [Lib.byteCells_append, ← cells_strCells]; exact h1
theorem St.chars {w0 w : World} {b : Nat} {cur : List UInt8} {g : Nat} {cs : Array Value} {v : World} (h : St w0 w b cur g cs v) (hB : w0.heap.size ≤ w.heap.size) (s : ByteArray) (q : Bool) (hl : cur.length + (charsP s q).length ≤ 70368744177664) :
 Calls Tryd.prog 28 #[.pointer (some ⟨b, 0, none⟩), .string s, .bool q] v fun e w' => e = .returned (.tuple #[]) ∧ St w0 w b (cur ++ charsP s q) g cs w' ∧ Lib.OthersKept 5 (some b) v w' := by
 refine (chars_calls s q w0.heap.size b cur v h.1.1 hl (h.size hB)).mono ?_; rintro e w' ⟨rfl, h1⟩; exact ⟨rfl, h.wr h1, h1.2.2⟩
set_option maxHeartbeats 8000000 in
set_option maxRecDepth 100000 in
theorem node_calls (n : S25) (hin : MethC 22 (innerP n) n) : MethC 17 (nodeP n) n := by
 intro w0 w b bs A1 c1 A3 c3 h1 l1 h3 l3 hB h hlen; unfold nodeV; have HIN := Aside0.mk (fun (w : World) (bs : List UInt8) => hin w0 w b bs A1 c1 A3 c3 h1 l1 h3 l3); clear hin; have HI := Aside0.mk h; have H1 := Aside0.mk h1; have HB := Aside0.mk hB; have HBS := Aside0.mk hB.size; have HL := Aside0.mk hlen; have H2 := h1.2.1; clear h h1 h3 hB l1 l3 hlen; by_cases hc0 : tclass n.f0 = 0
 ·have e := nodeP_none hc0; rw [e] at HL ⊢; have y0 : (tclass n.f0 == 0) = true := by simp [hc0]
  clear e hc0; go_enter Tryd.func17, Tryd.ntmps17
  go_wp2_with (first | ((with_reducible refine gate_dst (N := 3) rfl ?_); refine box_event ?hg (N := 3) ?hd (cs := #[.int .i64 n.f0, .slice A1 n.f1.length c1, .string n.f2, .slice A3 n.f3.length c3]) (t := 25) ?hr ?_; (case hd => rfl); (case hg => rfl); (case hr => first | (go_simp; done) | (go_simp; rfl)); intro g hgs v1 hbox hb; have S1 := Aside0.mk (show St w0 w b bs g #[.int .i64 n.f0, .slice A1 n.f1.length c1, .string n.f2, .slice A3 n.f3.length c3] v1 from ⟨⟨isb_moved HI.out hb, hb.mono HBS.out, kept_below hb⟩, hbox⟩); have x1 : v1.cell? ⟨g, 0, none⟩ = some (.int .i64 n.f0) := S1.out.c 0; clear hb hbox hgs) | (go_at_call 27; refine (tags_Class.calls _ _ _ rfl).mono ?_; intro e v2 hh; obtain ⟨rfl, hb⟩ := hh; have S2 := Aside0.mk (S1.out.below (S1.out.size HBS.out) hb); have x20 : v2.cell? ⟨g, 0, none⟩ = some (.int .i64 n.f0) := S2.out.c 0; have x21 : v2.cell? ⟨g, 1, none⟩ = some (.slice A1 n.f1.length c1) := S2.out.c 1; have x22 : v2.cell? ⟨g, 2, none⟩ = some (.string n.f2) := S2.out.c 2; have x23 : v2.cell? ⟨g, 3, none⟩ = some (.slice A3 n.f3.length c3) := S2.out.c 3; clear hb S1 x1) | (go_at_call 22; refine (HIN.out _ bs (HB.out.trans S2.out.1.2.1) S2.out.1.1 HL.out).mono ?_; intro e w3 hh; obtain ⟨rfl, h5⟩ := hh; have HW := Aside0.mk (S2.out.wr h5); clear h5))
  refine bodyPost_ret (v := .tuple #[]) (by simp [results, Tryd.results17, go_sem]) rfl ?_; exact ⟨rfl, HW.out.1⟩
 have n0 : (tclass n.f0 == 0) = false := by simp [hc0]
 by_cases hc1 : tclass n.f0 = 1
 ·have e := nodeP_text hc1; rw [e] at HL ⊢; have y1 : (tclass n.f0 == 1) = true := by simp [hc1]
  clear e hc1 hc0; go_enter Tryd.func17, Tryd.ntmps17
  go_wp2_with (first | ((with_reducible refine gate_dst (N := 3) rfl ?_); refine box_event ?hg (N := 3) ?hd (cs := #[.int .i64 n.f0, .slice A1 n.f1.length c1, .string n.f2, .slice A3 n.f3.length c3]) (t := 25) ?hr ?_; (case hd => rfl); (case hg => rfl); (case hr => first | (go_simp; done) | (go_simp; rfl)); intro g hgs v1 hbox hb; have S1 := Aside0.mk (show St w0 w b bs g #[.int .i64 n.f0, .slice A1 n.f1.length c1, .string n.f2, .slice A3 n.f3.length c3] v1 from ⟨⟨isb_moved HI.out hb, hb.mono HBS.out, kept_below hb⟩, hbox⟩); have x1 : v1.cell? ⟨g, 0, none⟩ = some (.int .i64 n.f0) := S1.out.c 0; clear hb hbox hgs) | (go_at_call 27; refine (tags_Class.calls _ _ _ rfl).mono ?_; intro e v2 hh; obtain ⟨rfl, hb⟩ := hh; have S2 := Aside0.mk (S1.out.below (S1.out.size HBS.out) hb); have x20 : v2.cell? ⟨g, 0, none⟩ = some (.int .i64 n.f0) := S2.out.c 0; have x21 : v2.cell? ⟨g, 1, none⟩ = some (.slice A1 n.f1.length c1) := S2.out.c 1; have x22 : v2.cell? ⟨g, 2, none⟩ = some (.string n.f2) := S2.out.c 2; have x23 : v2.cell? ⟨g, 3, none⟩ = some (.slice A3 n.f3.length c3) := S2.out.c 3; clear hb S1 x1) | (go_at_call 28; refine (S2.out.chars HBS.out _ _ HL.out).mono ?_; intro e w3 hh; obtain ⟨rfl, h5, _⟩ := hh; have HW := Aside0.mk h5; clear h5))
  refine bodyPost_ret (v := .tuple #[]) (by simp [results, Tryd.results17, go_sem]) rfl ?_; exact ⟨rfl, HW.out.1⟩
 have n1 : (tclass n.f0 == 1) = false := by simp [hc1]
 have HT0 := Aside0.mk (show bs.length + ([60] ++ bl (tname n.f0) ++ attrsP n.f1 ++ [62]).length ≤ 70368744177664 by
  by_cases hc5 : tclass n.f0 = 5
  ·have := HL.out; rw [nodeP_void hc5] at this; exact this
  ·have := HL.out; rw [nodeP_else hc0 hc1 hc5] at this; simp only [List.length_append] at this ⊢; omega)
 have hw5 : (tclass n.f0 == 5) = true ∧ Aside0 (nodeP n = [60] ++ bl (tname n.f0) ++ attrsP n.f1 ++ [62]) ∨ (tclass n.f0 == 5) = false ∧ Aside0 (nodeP n = [60] ++ bl (tname n.f0) ++ attrsP n.f1 ++ [62] ++ (innerP n ++ [60, 47] ++ bl (tname n.f0) ++ [62])) := by
  by_cases hc5 : tclass n.f0 = 5
  ·exact .inl ⟨by simp [hc5], ⟨nodeP_void hc5⟩⟩
  ·exact .inr ⟨by simp [hc5], ⟨nodeP_else hc0 hc1 hc5⟩⟩
 clear hc0 hc1; have hts := tname_size n.f0; rcases hw5 with ⟨y5, HN⟩ | ⟨y5, HN⟩
 all_goals
  go_enter Tryd.func17, Tryd.ntmps17
  go_wp2_with (first | ((with_reducible refine gate_dst (N := 3) rfl ?_); refine box_event ?hg (N := 3) ?hd (cs := #[.int .i64 n.f0, .slice A1 n.f1.length c1, .string n.f2, .slice A3 n.f3.length c3]) (t := 25) ?hr ?_; (case hd => rfl); (case hg => rfl); (case hr => first | (go_simp; done) | (go_simp; rfl)); intro g hgs v1 hbox hb; have S1 := Aside0.mk (show St w0 w b bs g #[.int .i64 n.f0, .slice A1 n.f1.length c1, .string n.f2, .slice A3 n.f3.length c3] v1 from ⟨⟨isb_moved HI.out hb, hb.mono HBS.out, kept_below hb⟩, hbox⟩); have x1 : v1.cell? ⟨g, 0, none⟩ = some (.int .i64 n.f0) := S1.out.c 0; clear hb hbox hgs) | (go_at_call 27; refine (tags_Class.calls _ _ _ rfl).mono ?_; intro e v2 hh; obtain ⟨rfl, hb⟩ := hh; have S2 := Aside0.mk (S1.out.below (S1.out.size HBS.out) hb); have x20 : v2.cell? ⟨g, 0, none⟩ = some (.int .i64 n.f0) := S2.out.c 0; have x21 : v2.cell? ⟨g, 1, none⟩ = some (.slice A1 n.f1.length c1) := S2.out.c 1; have x22 : v2.cell? ⟨g, 2, none⟩ = some (.string n.f2) := S2.out.c 2; have x23 : v2.cell? ⟨g, 3, none⟩ = some (.slice A3 n.f3.length c3) := S2.out.c 3; clear hb S1 x1) | (go_at_call 29; refine (tags_Name.calls _ _ _ rfl).mono ?_; intro e v3 hh; obtain ⟨rfl, hb⟩ := hh; have S3 := Aside0.mk (S2.out.below (S2.out.size HBS.out) hb); have x30 : v3.cell? ⟨g, 0, none⟩ = some (.int .i64 n.f0) := S3.out.c 0; have x31 : v3.cell? ⟨g, 1, none⟩ = some (.slice A1 n.f1.length c1) := S3.out.c 1; have x32 : v3.cell? ⟨g, 2, none⟩ = some (.string n.f2) := S3.out.c 2; have x33 : v3.cell? ⟨g, 3, none⟩ = some (.slice A3 n.f3.length c3) := S3.out.c 3; clear hb S2 x20 x21 x22 x23))
  have hl4 : bs.length + (bl ((⟨#[60]⟩ : ByteArray) ++ tname n.f0)).length ≤ 70368744177664 := by have := HT0.out; rw [bl_append]; simp only [List.length_append] at this ⊢; have e : (bl ⟨#[60]⟩).length = 1 := rfl; have e2 : ([60] : List UInt8).length = 1 := rfl; omega
  have HL4 := Aside0.mk hl4; clear hl4; go_wp2_with fail
  refine (S3.out.ws HBS.out _ HL4.out).mono ?_; intro e v4 hh; obtain ⟨rfl, h5, _⟩ := hh; rw [bl_append] at h5; have S4 := Aside0.mk (show St w0 w b (bs ++ ([60] ++ bl (tname n.f0))) g _ v4 from h5); clear h5 S3 x30 x31 x32 x33; have x40 : v4.cell? ⟨g, 0, none⟩ = some (.int .i64 n.f0) := S4.out.c 0; have x41 : v4.cell? ⟨g, 1, none⟩ = some (.slice A1 n.f1.length c1) := S4.out.c 1; have x42 : v4.cell? ⟨g, 2, none⟩ = some (.string n.f2) := S4.out.c 2; have x43 : v4.cell? ⟨g, 3, none⟩ = some (.slice A3 n.f3.length c3) := S4.out.c 3
  go_wp2; go_loopw [35] (fun v35 wr => ∃ (i : Nat), v35 = .int .i64 i ∧ i ≤ n.f1.length ∧ Aside0 (St w0 w b (bs ++ ([60] ++ bl (tname n.f0)) ++ attrsP (n.f1.take i)) g #[.int .i64 n.f0, .slice A1 n.f1.length c1, .string n.f2, .slice A3 n.f3.length c3] wr)) (fun v35 _ => n.f1.length - (intOf v35).toNat)
  case atStart => exact ⟨0, rfl, Nat.zero_le _, ⟨by simpa [attrsP] using S4.out⟩⟩
  case round =>
   clear S4 x40 x41 x42 x43; obtain ⟨i, rfl, hi, hW⟩ := hrel; by_cases hlt : i < n.f1.length
   ·have q1 : (0 : Int) ≤ (i : Int) := by omega
    have q2 : (i : Int) < (n.f1.length : Int) := by omega
    have HBr := Aside0.mk (HB.out.trans hW.out.1.2.1); obtain ⟨ad, eA, hx0, hx1⟩ := at_T47 H1.out (i : Int) q1 q2; have hrd : rd_T47 n.f1 (i : Int) = n.f1[i] := by simp [rd_T47, List.getD_eq_getElem?_getD, List.getElem?_eq_getElem hlt]
    rw [hrd] at hx0 hx1; have HTk := Aside0.mk (attrsP_take n.f1 i hlt); have HTL := Aside0.mk (attrsP_take_le n.f1 (i + 1)); generalize n.f1[i] = k at *; clear hrd; subst eA; simp only [Int.toNat_natCast] at hx0 hx1; replace hx0 := (HBr.out.cell (World.block_lt_of_cell? w0 _ hx0)).trans hx0; replace hx1 := (HBr.out.cell (World.block_lt_of_cell? w0 _ hx1)).trans hx1; have HLk := Aside0.mk (show (bs ++ ([60] ++ bl (tname n.f0)) ++ attrsP (n.f1.take i)).length + ([32] ++ bl k.f0 ++ [61, 34] ++ charsP k.f1 true ++ [34]).length ≤ 70368744177664 by have h1 := HTL.out; have h2 := HT0.out; rw [HTk.out] at h1; simp only [List.length_append] at h1 h2 ⊢; omega)
    have hks : k.f0.size ≤ 70368744177664 := by have h1 := HLk.out; simp only [List.length_append] at h1; have e : (bl k.f0).length = k.f0.size := by simp [bl]
                                                omega
    have hb := (Below.refl wr.heap.size wr).alloc (Nat.le_refl _) (.cells #[.string k.f0, .string k.f1] 47); have S5 := Aside0.mk (hW.out.below (hW.out.size HBS.out) hb); have hkb : (wr.alloc (.cells #[.string k.f0, .string k.f1] 47)).heap[wr.heap.size]? = some (.cells #[.string k.f0, .string k.f1] 47 (0, 0)) := blk_new _ _; have KB := Aside0.mk hkb; clear hb hkb hW; go_wp2_with fail
    clear hx0 hx1; generalize wr.alloc (.cells #[.string k.f0, .string k.f1] 47) = W5 at *; have y0 : W5.cell? ⟨wr.heap.size, 0, none⟩ = some (.string k.f0) := blk_cell KB.out 0; have y1 : W5.cell? ⟨wr.heap.size, 1, none⟩ = some (.string k.f1) := blk_cell KB.out 1; generalize wr.heap.size = g2 at *; have hadd1 : ∀ w : World, (Op.stringOp .add ⟨#[32]⟩ k.f0).run Tryd.prog w = .ok (.string (⟨#[32]⟩ ++ k.f0)) w := fun w => run_string_add_sum w _ _ (by have e : (⟨#[32]⟩ : ByteArray).size = 1 := rfl; omega)
    have hadd2 : ∀ w : World, (Op.stringOp .add (⟨#[32]⟩ ++ k.f0) ⟨#[61, 34]⟩).run Tryd.prog w = .ok (.string (⟨#[32]⟩ ++ k.f0 ++ ⟨#[61, 34]⟩)) w := fun w => run_string_add_sum w _ _ (by rw [ByteArray.size_append]; have e : (⟨#[32]⟩ : ByteArray).size = 1 := rfl; have e2 : (⟨#[61, 34]⟩ : ByteArray).size = 2 := rfl; omega)
    go_still_tail 7, (by kernel_rfl)
    clear hadd1 hadd2; change wpList _ _ _ _ _ W5.drew
    have S6 := Aside0.mk (S5.out.below (S5.out.size HBS.out) (Below.drew (Below.refl W5.heap.size W5))); have KB6 := Aside0.mk (show W5.drew.heap[g2]? = _ from KB.out); generalize W5.drew = W6 at *; clear S5 KB y0 y1; have z1 : W6.cell? ⟨g2, 1, none⟩ = some (.string k.f1) := blk_cell KB6.out 1; have HL6 := Aside0.mk (show (bs ++ ([60] ++ bl (tname n.f0)) ++ attrsP (n.f1.take i)).length + (bl ((⟨#[32]⟩ : ByteArray) ++ k.f0 ++ (⟨#[61, 34]⟩ : ByteArray))).length ≤ 70368744177664 by have h1 := HLk.out; simp only [List.length_append, List.length_cons, List.length_nil, bl_len, ByteArray.size_append] at h1 ⊢; have e : (⟨#[32]⟩ : ByteArray).size = 1 := rfl; have e2 : (⟨#[61, 34]⟩ : ByteArray).size = 2 := rfl; omega); go_wp2_with fail
    refine (S6.out.ws HBS.out _ HL6.out).mono ?_; intro e v7 hh; obtain ⟨rfl, h5, hk5⟩ := hh; have S7 := Aside0.mk h5; have KB7 := Aside0.mk (kept_blk S6.out.1.1 KB6.out (by decide) (by decide) hk5); clear h5 hk5 S6 KB6 z1; have z1 : v7.cell? ⟨g2, 1, none⟩ = some (.string k.f1) := blk_cell KB7.out 1; have HL7 := Aside0.mk (show (bs ++ ([60] ++ bl (tname n.f0)) ++ attrsP (n.f1.take i) ++ bl ((⟨#[32]⟩ : ByteArray) ++ k.f0 ++ (⟨#[61, 34]⟩ : ByteArray))).length + (charsP k.f1 true).length ≤ 70368744177664 by have h1 := HLk.out; simp only [List.length_append, List.length_cons, List.length_nil, bl_len, ByteArray.size_append] at h1 ⊢; have e : (⟨#[32]⟩ : ByteArray).size = 1 := rfl; have e2 : (⟨#[61, 34]⟩ : ByteArray).size = 2 := rfl; omega); have HL8 := Aside0.mk (show (bs ++ ([60] ++ bl (tname n.f0)) ++ attrsP (n.f1.take i) ++ bl ((⟨#[32]⟩ : ByteArray) ++ k.f0 ++ (⟨#[61, 34]⟩ : ByteArray)) ++ charsP k.f1 true).length + (bl ⟨#[34]⟩).length ≤ 70368744177664 by have h1 := HLk.out; simp only [List.length_append, List.length_cons, List.length_nil, bl_len, ByteArray.size_append] at h1 ⊢; have e : (⟨#[32]⟩ : ByteArray).size = 1 := rfl; have e2 : (⟨#[61, 34]⟩ : ByteArray).size = 2 := rfl; have e3 : (⟨#[34]⟩ : ByteArray).size = 1 := rfl; omega); go_wp2_with fail
    refine (S7.out.chars HBS.out _ _ HL7.out).mono ?_; intro e v8 hh; obtain ⟨rfl, h5, _⟩ := hh; have S8 := Aside0.mk h5; clear h5 S7 z1 KB7; go_wp2_with fail
    refine (S8.out.ws HBS.out _ HL8.out).mono ?_; intro e v9 hh; obtain ⟨rfl, h5, _⟩ := hh; have S9 := Aside0.mk h5; clear h5 S8; go_wp2; go_roundw
    case rel =>
     refine ⟨i + 1, by go_num, by omega, ⟨?_⟩⟩; rw [HTk.out, ← List.append_assoc]; have h6 := S9.out; rw [bl_append, bl_append] at h6; simpa [bl] using h6
    case measure => simp [intOf]; omega
   ·obtain rfl : i = n.f1.length := by omega
    have hW2 := hW.out; rw [List.take_length] at hW2; have S9 := Aside0.mk hW2; clear hW2 hW; have HL9 := Aside0.mk (show (bs ++ ([60] ++ bl (tname n.f0)) ++ attrsP n.f1).length + (bl ⟨#[62]⟩).length ≤ 70368744177664 by have h1 := HT0.out; simp only [List.length_append, List.length_cons, List.length_nil, bl_len] at h1 ⊢; have e3 : (⟨#[62]⟩ : ByteArray).size = 1 := rfl; omega); go_wp2_with fail
    refine (S9.out.ws HBS.out _ HL9.out).mono ?_; intro e v10 hh; obtain ⟨rfl, h5, _⟩ := hh; have S10 := Aside0.mk h5; clear h5 S9; have x0 : v10.cell? ⟨g, 0, none⟩ = some (.int .i64 n.f0) := S10.out.c 0; have x1 : v10.cell? ⟨g, 1, none⟩ = some (.slice A1 n.f1.length c1) := S10.out.c 1; have x2 : v10.cell? ⟨g, 2, none⟩ = some (.string n.f2) := S10.out.c 2; have x3 : v10.cell? ⟨g, 3, none⟩ = some (.slice A3 n.f3.length c3) := S10.out.c 3; have hl5 := HL.out; rw [HN.out] at hl5; have HLZ := Aside0.mk hl5; clear hl5; go_wp2_with fail
    first
    | (refine bodyPost_ret (v := .tuple #[]) (by simp [results, Tryd.results17, go_sem]) rfl ?_
       refine ⟨rfl, ?_⟩; rw [HN.out]; have h6 := S10.out.1; simpa [bl] using h6)
    | (have HL10 := Aside0.mk (show (bs ++ ([60] ++ bl (tname n.f0)) ++ attrsP n.f1 ++ bl ⟨#[62]⟩).length + (innerP n).length ≤ 70368744177664 by have h1 := HLZ.out; simp only [List.length_append, List.length_cons, List.length_nil, bl_len] at h1 ⊢; have e3 : (⟨#[62]⟩ : ByteArray).size = 1 := rfl; omega)
       refine (HIN.out _ _ (HB.out.trans S10.out.1.2.1) S10.out.1.1 HL10.out).mono ?_; intro e v11 hh; obtain ⟨rfl, h5⟩ := hh; have S11 := Aside0.mk (S10.out.wr h5); clear h5 S10 x0 x1 x2 x3; have HL11 := Aside0.mk (show (bs ++ ([60] ++ bl (tname n.f0)) ++ attrsP n.f1 ++ bl ⟨#[62]⟩ ++ innerP n).length + (bl ((⟨#[60, 47]⟩ : ByteArray) ++ tname n.f0 ++ (⟨#[62]⟩ : ByteArray))).length ≤ 70368744177664 by have h1 := HLZ.out; simp only [List.length_append, List.length_cons, List.length_nil, bl_len, ByteArray.size_append] at h1 ⊢; have e3 : (⟨#[62]⟩ : ByteArray).size = 1 := rfl; have e4 : (⟨#[60, 47]⟩ : ByteArray).size = 2 := rfl; omega); have hadd2 : ∀ w : World, (Op.stringOp .add (⟨#[60, 47]⟩ ++ tname n.f0) ⟨#[62]⟩).run Tryd.prog w = .ok (.string (⟨#[60, 47]⟩ ++ tname n.f0 ++ ⟨#[62]⟩)) w := fun w => run_string_add_sum w _ _ (by rw [ByteArray.size_append]; have e : (⟨#[60, 47]⟩ : ByteArray).size = 2 := rfl; have e2 : (⟨#[62]⟩ : ByteArray).size = 1 := rfl; omega)
       go_wp2_with fail
       refine (S11.out.ws HBS.out _ HL11.out).mono ?_; intro e v12 hh; obtain ⟨rfl, h5, _⟩ := hh; have S12 := Aside0.mk h5; clear h5 S11; go_wp2; go_end0
       refine ⟨rfl, ?_⟩; rw [HN.out]; have h6 := S12.out.1; rw [bl_append, bl_append] at h6; simpa [bl] using h6)
def Tabs (w : World) : Prop := Lib.Utf8Tabs 0 1 w
theorem Tabs.below {w w' : World} (h : Tabs w) (hb : Below w.heap.size w w') : Tabs w' :=
 ⟨fun c hc => (hb.cell (World.block_lt_of_cell? w _ (h.1 c hc))).trans (h.1 c hc), fun i hi => ⟨(hb.cell (World.block_lt_of_cell? w _ (h.2 i hi).1)).trans (h.2 i hi).1, (hb.cell (World.block_lt_of_cell? w _ (h.2 i hi).2)).trans (h.2 i hi).2⟩⟩
theorem valid_calls (s : ByteArray) (w : World) (hs : s.size ≤ 9223372036854775807) (hT : Tabs w) : Calls Tryd.prog 61 #[.string s] w fun e w' => e = .returned (.bool (Lib.validD s.data.toList)) ∧ Below w.heap.size w w' := Any.utf8_ValidString Tryd.lays196 s w hs hT
def charOk (c : Int) : Bool := Utf8.valid c && decide (32 ≤ c) && decide (c ≠ 127)
theorem valid_rune_eq (c : Int) : utf8_ValidRune.f (3 + 1) c = some (Utf8.valid c) := by
 have key : ∀ b : Bool, Utf8.valid c = b → some b = some (Utf8.valid c) := fun b h => by rw [h]
 unfold utf8_ValidRune.f; simp only [utf8_ValidRune.j0]; repeat' split
 all_goals
  refine key _ ?_; unfold Utf8.valid; (try simp only [decide_eq_true_eq, Bool.false_eq_true, Bool.or_eq_true, Bool.and_eq_true, Bool.or_eq_false_iff, Bool.and_eq_false_iff, decide_eq_false_iff_not] at *)
  try omega
theorem chars_May_eq (c : Int) : chars_May.f (3 + 1) c = some (charOk c) := by
 unfold chars_May.f chars_Class.f; rw [valid_rune_eq]; simp only [Option.bind_some]; cases hv : Utf8.valid c with
 | false => simp [charOk, hv]
 | true =>
  simp only [if_true, chars_Class.j0, chars_Class.j1, chars_Class.j2]; have key : ∀ o : Option Int, (∃ v, o = some v ∧ charOk c = decide (v > 1)) → (o.bind fun t => some (decide (t > 1))) = some (charOk c) := fun o ⟨v, h1, h2⟩ => by rw [h1, h2]; rfl
  refine key _ ?_
  have ite_ok : ∀ (p : Prop) [Decidable p] (a b : Option Int), (p → ∃ v, a = some v ∧ charOk c = decide (v > 1)) → (¬ p → ∃ v, b = some v ∧ charOk c = decide (v > 1)) → ∃ v, (if p then a else b) = some v ∧ charOk c = decide (v > 1) := by
   intro p _ a b h1 h2; by_cases h : p
   ·rw [if_pos h]; exact h1 h
   ·rw [if_neg h]; exact h2 h
  repeat' (refine ite_ok _ _ _ (fun _ => ?_) (fun _ => ?_))
  all_goals
   refine ⟨_, rfl, ?_⟩; unfold charOk; rw [hv]; (try simp only [Bool.true_and, beq_iff_eq, decide_eq_true_eq, Bool.false_eq_true, Bool.or_eq_true, Bool.and_eq_true, Bool.or_eq_false_iff, Bool.and_eq_false_iff, decide_eq_false_iff_not] at *)
   first | done | (simp; done) | (simp; omega) | omega
def valueFrom (s : ByteArray) : Nat → Nat → Bool
 | 0, _ => true
 | n + 1, i => if i < s.size then charOk (Utf8.decode s i).1 && valueFrom s n (i + (Utf8.decode s i).2) else true
def valueOk (s : ByteArray) : Bool := valueFrom s s.size 0 && (decide (s.size ≤ 200) && Lib.validD s.data.toList)
theorem valueFrom_end (s : ByteArray) (n pos : Nat) (h : ¬ pos < s.size) : valueFrom s n pos = true := by
 cases n with
 | zero => rfl
 | succ f => simp [valueFrom, h]
set_option maxHeartbeats 4000000 in
set_option maxRecDepth 100000 in
theorem value_calls (a0 : ByteArray) (w : World) (hT : Tabs w) : Calls Tryd.prog 47 #[.string a0] w fun e w' => e = .returned (.bool (valueOk a0)) ∧ Below w.heap.size w w' := by
 unfold valueOk; obtain ⟨R, hR⟩ : ∃ R, R = valueFrom a0 a0.size 0 := ⟨_, rfl⟩; rw [← hR]; have HR := Aside0.mk hR.symm; have HT := Aside0.mk hT; have HV := Aside0.mk (fun (v : World) (hs : a0.size ≤ 9223372036854775807) (h : Tabs v) => valid_calls a0 v hs h); clear hR hT; go_enter Tryd.func47, Tryd.ntmps47
 go_wp2; go_loopw [] (fun wr => ∃ (pos fuel : Nat), wr.heap[w.heap.size]? = some (.stringIter a0 pos) ∧ Below w.heap.size w wr ∧ Aside0 (valueFrom a0 fuel pos = R) ∧ a0.size ≤ pos + fuel) (fun wr => a0.size - wr.iterPos w.heap.size)
 case atStart =>
  refine ⟨0, a0.size, ?_, (Below.refl _ w).alloc (Nat.le_refl _) _, HR, by omega⟩; exact World.iter_heap w a0 0
 case round =>
  obtain ⟨pos, fuel, hit, hbw, hacc, hfu⟩ := hrel; by_cases hp : pos < a0.size
  ·have hnx : ∀ ty, (Instr.next (.pointer (some ⟨w.heap.size, 0, none⟩)) true ty).run Tryd.prog wr = _ := fun ty => Lib.run_next_any_at wr w.heap.size a0 pos ty hit hp
   have hwd := width_pos a0 pos hp; have HIT := Aside0.mk (Lib.iterAt_heap wr w.heap.size a0 pos (pos + (Utf8.decode a0 pos).2) hit); have HB := Aside0.mk (Lib.below_iterAt hbw (k := w.heap.size) (Nat.le_refl _) a0 (pos + (Utf8.decode a0 pos).2)); obtain ⟨f, rfl⟩ : ∃ f, fuel = f + 1 := ⟨fuel - 1, by omega⟩; have HA := Aside0.mk (show (charOk (Utf8.decode a0 pos).1 && valueFrom a0 f (pos + (Utf8.decode a0 pos).2)) = R by have := hacc.out; simpa [valueFrom, hp] using this); have HI0 := Aside0.mk hit; clear hacc hbw hit; generalize hdc : Utf8.decode a0 pos = dc at *; obtain ⟨c, wd⟩ := dc; clear hdc; simp only at *; generalize wr.iterAt w.heap.size a0 (pos + wd) = W1 at *; cases hc : charOk c
   ·have HM := Aside0.mk (show chars_May.f (3 + 1) c = some false by rw [chars_May_eq, hc]); have hr := HA.out; rw [hc, Bool.false_and] at hr; subst hr; clear HA hc; go_wp2_with (go_at_call 60; refine (chars_May.calls _ _ _ _ HM.out).mono ?_; intro e v2 hh; obtain ⟨rfl, hd⟩ := hh; have HB2 := Aside0.mk (hd.below); clear hd)
    go_ret; exact ⟨by simp, HB.out.trans (HB2.out.mono HB.out.size)⟩
   ·have HM := Aside0.mk (show chars_May.f (3 + 1) c = some true by rw [chars_May_eq, hc]); have hr := HA.out; rw [hc, Bool.true_and] at hr; have HR2 := Aside0.mk hr; clear HA hc hr; go_wp2_with (go_at_call 60; refine (chars_May.calls _ _ _ _ HM.out).mono ?_; intro e v2 hh; obtain ⟨rfl, hd⟩ := hh; have HB2 := Aside0.mk (hd.below); clear hd)
    go_roundw
    case rel => exact ⟨_, f, blk_below HIT.out HB2.out, HB.out.trans (HB2.out.mono HB.out.size), HR2, by omega⟩
    case measure => have h0 := HI0.out; have h1 := blk_below HIT.out HB2.out; simp only [World.iterPos, h1, h0]; omega
  ·have hnx : ∀ ty, (Instr.next (.pointer (some ⟨w.heap.size, 0, none⟩)) true ty).run Tryd.prog wr = _ := fun ty => Lib.run_next_end_at wr w.heap.size a0 pos ty hit hp
   have hr := hacc.out; rw [valueFrom_end a0 fuel pos hp] at hr; subst hr; have HB := Aside0.mk hbw; clear hacc hbw hit; by_cases h2 : a0.size ≤ 200
   ·have HN2 := Aside0.mk h2; have b1 : (a0.size : Int) ≤ 200 := by omega
    clear h2; go_wp2_with (go_at_call 61; refine (HV.out _ (Nat.le_trans HN2.out (by decide)) (HT.out.below HB.out)).mono ?_; intro e v2 hh; obtain ⟨rfl, hb⟩ := hh; have HB2 := Aside0.mk (HB.out.trans (hb.mono HB.out.size)); clear hb)
    go_ret; exact ⟨by rw [decide_eq_true HN2.out]; simp, HB2.out⟩
   ·have HN2 := Aside0.mk h2; have b1 : ¬ (a0.size : Int) ≤ 200 := by omega
    clear h2; go_wp2; go_ret; exact ⟨by rw [decide_eq_false HN2.out]; simp, HB.out⟩
def findA : List S47 → ByteArray → Nat → Int
 | [], _, _ => -1
 | a :: l, n, i => if a.f0.toList == n.toList then (i : Int) else findA l n (i + 1)
set_option maxRecDepth 100000 in
theorem at1_calls (x : S47) (name : ByteArray) (g : Nat) (w : World) (hg : w.cell? ⟨g, 0, none⟩ = some (.string name)) :
 Calls Tryd.prog 63 #[.agg #[.string x.f0, .string x.f1], .pointer (some ⟨g, 0, none⟩)] w fun e w' => e = .returned (.bool (x.f0.toList == name.toList)) ∧ Below w.heap.size w w' := by
 have hlt := World.block_lt_of_cell? w _ hg; have hg2 := (World.cell?_alloc_lt w (.cells #[.string x.f0, .string x.f1] 47) ⟨g, 0, none⟩ hlt).trans hg; go_enter Tryd.func63, Tryd.ntmps63
 go_wp2; go_ret; exact ⟨rfl, (Below.refl _ _).alloc (Nat.le_refl _) _⟩
theorem findA_ge : ∀ (l : List S47) (n : ByteArray) (i : Nat), -1 ≤ findA l n i
 | [], _, _ => by simp [findA]
 | a :: l, n, i => by
  unfold findA; split
  ·omega
  ·exact findA_ge l n (i + 1)
set_option maxHeartbeats 4000000 in
set_option maxRecDepth 100000 in
theorem idx_calls (l0 : List S47) (A0 : Option Addr) (c0 : Nat) (name : ByteArray) (g : Nat) (w : World) (hr0 : Kd.C k47 w A0 l0.length l0) (hc0 : l0.length ≤ c0) (hg : w.cell? ⟨g, 0, none⟩ = some (.string name)) :
 Calls Tryd.prog 62 #[.slice A0 l0.length c0, .func (.func 63) #[] #[.pointer (some ⟨g, 0, none⟩)]] w fun e w' => e = .returned (.int .i64 (findA l0 name 0)) ∧ Below w.heap.size w w' := by
 obtain ⟨R, hR⟩ : ∃ R, R = findA l0 name 0 := ⟨_, rfl⟩; rw [← hR]; have HR := Aside0.mk hR.symm; have H0 := Aside0.mk hr0; have HG := Aside0.mk hg; have H2 := hr0.2.1; clear hR hr0 hg; go_enter Tryd.func62, Tryd.ntmps62
 go_wp2; go_loopw [8] (fun v8 wr => ∃ (i : Nat), v8 = .int .i64 i ∧ i ≤ l0.length ∧ Aside0 (Below w.heap.size w wr) ∧ Aside0 (findA (l0.drop i) name i = R)) (fun v8 _ => l0.length - (intOf v8).toNat)
 case atStart => exact ⟨0, rfl, Nat.zero_le _, ⟨Below.refl _ _⟩, HR⟩
 case round =>
  obtain ⟨i, rfl, hi, hb, hf⟩ := hrel; by_cases hlt : i < l0.length
  ·have q1 : (0 : Int) ≤ (i : Int) := by omega
   have q2 : (i : Int) < (l0.length : Int) := by omega
   obtain ⟨ad, eA, hx0, hx1⟩ := at_T47 H0.out (i : Int) q1 q2; have hrd : rd_T47 l0 (i : Int) = l0[i] := by simp [rd_T47, List.getD_eq_getElem?_getD, List.getElem?_eq_getElem hlt]
   rw [hrd] at hx0 hx1; have hd : l0.drop i = l0[i] :: l0.drop (i + 1) := List.drop_eq_getElem_cons hlt; have HF := Aside0.mk (show (if l0[i].f0.toList == name.toList then (i : Int) else findA (l0.drop (i + 1)) name (i + 1)) = R by have := hf.out; rw [hd] at this; exact this); generalize l0[i] = k at *; clear hrd hd hf; subst eA; simp only [Int.toNat_natCast] at hx0 hx1; replace hx0 := (hb.out.cell (World.block_lt_of_cell? w _ hx0)).trans hx0; replace hx1 := (hb.out.cell (World.block_lt_of_cell? w _ hx1)).trans hx1; have HGr := Aside0.mk ((hb.out.cell (World.block_lt_of_cell? w _ HG.out)).trans HG.out); cases hk : (k.f0.toList == name.toList)
   ·have HK := Aside0.mk hk; have hr := HF.out; rw [hk, if_neg (by decide)] at hr; have HF2 := Aside0.mk hr; clear hr HF hk; go_wp2_with (go_at_call 63; refine (at1_calls k name g _ HGr.out).mono ?_; intro e v2 hh; obtain ⟨rfl, hbb⟩ := hh; rw [HK.out]; have HB2 := Aside0.mk (hb.out.trans (hbb.mono hb.out.size)); clear hbb)
    go_roundw
    case rel => exact ⟨i + 1, by go_num, by omega, HB2, HF2⟩
    case measure => simp [intOf]; omega
   ·have HK := Aside0.mk hk; have hr := HF.out; rw [hk, if_pos rfl] at hr; subst hr; clear HF hk; go_wp2_with (go_at_call 63; refine (at1_calls k name g _ HGr.out).mono ?_; intro e v2 hh; obtain ⟨rfl, hbb⟩ := hh; rw [HK.out]; have HB2 := Aside0.mk (hb.out.trans (hbb.mono hb.out.size)); clear hbb)
    go_ret; exact ⟨rfl, HB2.out⟩
  ·obtain rfl : i = l0.length := by omega
   have hr := hf.out; rw [List.drop_length] at hr; have hr2 : -1 = R := hr; subst hr2; clear hr hf; go_wp2; go_ret; exact ⟨rfl, hb.out⟩
def attrs_at.f (l0 : List S47) (a1 : ByteArray) : Option Int := some (findA l0 a1 0)
set_option maxRecDepth 100000 in
theorem attrs_at.calls (A0 : Option Addr) (c0 : Nat) (l0 : List S47) (a1 : ByteArray) (r : Int) (w : World) (hr0 : Kd.C k47 w A0 l0.length l0) (hc0 : l0.length ≤ c0) (h : attrs_at.f l0 a1 = some r) :
 Calls Tryd.prog 48 #[.slice A0 l0.length c0, .string a1] w fun e w' => e = .returned (.int .i64 r) ∧ Below w.heap.size w w' := by
 obtain rfl := Option.some.inj h; have hb := (Below.refl w.heap.size w).alloc (Nat.le_refl _) (.cells #[.string a1] 9); have HC := Aside0.mk (idx_calls l0 A0 c0 a1 w.heap.size (w.alloc (.cells #[.string a1] 9)) (Kd.C_below hr0 hb) hc0 (by simp)); have HB := Aside0.mk hb; clear hb hr0 h; go_enter Tryd.func48, Tryd.ntmps48
 go_wp2_with (go_at_call 62; refine HC.out.mono ?_; intro e v2 hh; obtain ⟨rfl, hbb⟩ := hh; have HB2 := Aside0.mk (HB.out.trans (hbb.mono HB.out.size)); clear hbb)
 go_ret; exact ⟨rfl, HB2.out⟩
def mayFrom (l : List S47) : List S47 → Nat → Bool
 | [], _ => true
 | a :: r, i => nameOk a.f0 && (valueOk a.f1 && (decide (findA l a.f0 0 = (i : Int)) && mayFrom l r (i + 1)))
def mayOk (l : List S47) : Bool := mayFrom l l 0
set_option maxHeartbeats 4000000 in
set_option maxRecDepth 100000 in
theorem may_calls (l0 : List S47) (A0 : Option Addr) (c0 : Nat) (w : World) (hr0 : Kd.C k47 w A0 l0.length l0) (hc0 : l0.length ≤ c0) (hT : Tabs w) :
 Calls Tryd.prog 39 #[.slice A0 l0.length c0] w fun e w' => e = .returned (.bool (mayOk l0)) ∧ Below w.heap.size w w' := by
 obtain ⟨R, hR⟩ : ∃ R, R = mayOk l0 := ⟨_, rfl⟩; rw [← hR]; have HR := Aside0.mk hR.symm; have H0 := Aside0.mk hr0; have HC0 := Aside0.mk hc0; have HT := Aside0.mk hT; have H2 := hr0.2.1; clear hR hr0 hT hc0; go_enter Tryd.func39, Tryd.ntmps39
 go_wp2; go_loopw [7] (fun v7 wr => ∃ (i : Nat), v7 = .int .i64 i ∧ i ≤ l0.length ∧ Aside0 (Below w.heap.size w wr) ∧ Aside0 (mayFrom l0 (l0.drop i) i = R)) (fun v7 _ => l0.length - (intOf v7).toNat)
 case atStart => exact ⟨0, rfl, Nat.zero_le _, ⟨Below.refl _ _⟩, HR⟩
 case round =>
  obtain ⟨i, rfl, hi, hb, hf⟩ := hrel; by_cases hlt : i < l0.length
  ·have q1 : (0 : Int) ≤ (i : Int) := by omega
   have q2 : (i : Int) < (l0.length : Int) := by omega
   obtain ⟨ad, eA, hx0, hx1⟩ := at_T47 H0.out (i : Int) q1 q2; have hrd : rd_T47 l0 (i : Int) = l0[i] := by simp [rd_T47, List.getD_eq_getElem?_getD, List.getElem?_eq_getElem hlt]
   rw [hrd] at hx0 hx1; have hd : l0.drop i = l0[i] :: l0.drop (i + 1) := List.drop_eq_getElem_cons hlt; have HF := Aside0.mk (show (nameOk l0[i].f0 && (valueOk l0[i].f1 && (decide (findA l0 l0[i].f0 0 = (i : Int)) && mayFrom l0 (l0.drop (i + 1)) (i + 1)))) = R by have := hf.out; rw [hd] at this; exact this); generalize l0[i] = k at *; clear hrd hd hf; subst eA; simp only [Int.toNat_natCast] at hx0 hx1; replace hx0 := (hb.out.cell (World.block_lt_of_cell? w _ hx0)).trans hx0; replace hx1 := (hb.out.cell (World.block_lt_of_cell? w _ hx1)).trans hx1; have HI := Aside0.mk (findA_ge l0 k.f0 0); have hbb := (Below.refl wr.heap.size wr).alloc (Nat.le_refl _) (.cells #[.string k.f0, .string k.f1] 47); have HB1 := Aside0.mk (hb.out.trans (hbb.mono hb.out.size)); have HK1 := Aside0.mk (blk_new wr (.cells #[.string k.f0, .string k.f1] 47)); clear hbb; have name_in : ∀ (b : Bool) (v : World), nameOk k.f0 = b → Calls Tryd.prog 46 #[.string k.f0] v fun e w' => e = .returned (.bool b) ∧ Below v.heap.size v w' := fun b v h => attrs_Name.calls k.f0 b v (congrArg some h)
   have value_in : ∀ (b : Bool) (v : World), valueOk k.f1 = b → Below w.heap.size w v → Calls Tryd.prog 47 #[.string k.f1] v fun e w' => e = .returned (.bool b) ∧ Below v.heap.size v w' := fun b v h hb => h ▸ value_calls k.f1 v (HT.out.below hb)
   have at_in : ∀ (z : Int) (v : World), findA l0 k.f0 0 = z → Below w.heap.size w v → Calls Tryd.prog 48 #[.slice (some ad) l0.length c0, .string k.f0] v fun e w' => e = .returned (.int .i64 z) ∧ Below v.heap.size v w' := fun z v h hb => attrs_at.calls (some ad) c0 l0 k.f0 z v (Kd.C_below H0.out hb) HC0.out (congrArg some h)
   have NIN := Aside0.mk name_in; have VIN := Aside0.mk value_in; have AIN := Aside0.mk at_in; clear name_in value_in at_in; generalize findA l0 k.f0 0 = z at *; cases h1 : nameOk k.f0
   ·have hr := HF.out; rw [h1, Bool.false_and] at hr; subst hr; have N1 := Aside0.mk h1; clear HF h1; go_wp2_with (go_at_call 46; refine (NIN.out false _ N1.out).mono ?_; intro e v2 hh; obtain ⟨rfl, hb2⟩ := hh; have HB2 := Aside0.mk (HB1.out.trans (hb2.mono HB1.out.size)); have HK2 := Aside0.mk (blk_below HK1.out hb2); have y0 : v2.cell? ⟨wr.heap.size, 0, none⟩ = some (.string k.f0) := blk_cell HK2.out 0; have y1 : v2.cell? ⟨wr.heap.size, 1, none⟩ = some (.string k.f1) := blk_cell HK2.out 1; clear hb2 HK1)
    go_ret; exact ⟨rfl, HB2.out⟩
   have hf1 := HF.out; rw [h1, Bool.true_and] at hf1; have N1 := Aside0.mk h1; clear HF h1; cases h2 : valueOk k.f1
   ·rw [h2, Bool.false_and] at hf1; subst hf1; have N2 := Aside0.mk h2; clear h2; go_wp2_with (go_at_call 46; refine (NIN.out true _ N1.out).mono ?_; intro e v2 hh; obtain ⟨rfl, hb2⟩ := hh; have HB2 := Aside0.mk (HB1.out.trans (hb2.mono HB1.out.size)); have HK2 := Aside0.mk (blk_below HK1.out hb2); have y0 : v2.cell? ⟨wr.heap.size, 0, none⟩ = some (.string k.f0) := blk_cell HK2.out 0; have y1 : v2.cell? ⟨wr.heap.size, 1, none⟩ = some (.string k.f1) := blk_cell HK2.out 1; clear hb2 HK1)
    go_wp2_with (go_at_call 47; refine (VIN.out false _ N2.out HB2.out).mono ?_; intro e v3 hh; obtain ⟨rfl, hb3⟩ := hh; have HB3 := Aside0.mk (HB2.out.trans (hb3.mono HB2.out.size)); have HK3 := Aside0.mk (blk_below HK2.out hb3); clear y0 y1; have y0 : v3.cell? ⟨wr.heap.size, 0, none⟩ = some (.string k.f0) := blk_cell HK3.out 0; clear hb3 HK2)
    go_ret; exact ⟨rfl, HB3.out⟩
   rw [h2, Bool.true_and] at hf1; have N2 := Aside0.mk h2; clear h2; by_cases h3 : z = (i : Int)
   ·rw [decide_eq_true h3, Bool.true_and] at hf1; have HF2 := Aside0.mk hf1; clear hf1; have y3 : (z != (i : Int)) = false := by simp [h3]
    clear h3; go_wp2_with (go_at_call 46; refine (NIN.out true _ N1.out).mono ?_; intro e v2 hh; obtain ⟨rfl, hb2⟩ := hh; have HB2 := Aside0.mk (HB1.out.trans (hb2.mono HB1.out.size)); have HK2 := Aside0.mk (blk_below HK1.out hb2); have y0 : v2.cell? ⟨wr.heap.size, 0, none⟩ = some (.string k.f0) := blk_cell HK2.out 0; have y1 : v2.cell? ⟨wr.heap.size, 1, none⟩ = some (.string k.f1) := blk_cell HK2.out 1; clear hb2 HK1)
    go_wp2_with (go_at_call 47; refine (VIN.out true _ N2.out HB2.out).mono ?_; intro e v3 hh; obtain ⟨rfl, hb3⟩ := hh; have HB3 := Aside0.mk (HB2.out.trans (hb3.mono HB2.out.size)); have HK3 := Aside0.mk (blk_below HK2.out hb3); clear y0 y1; have y0 : v3.cell? ⟨wr.heap.size, 0, none⟩ = some (.string k.f0) := blk_cell HK3.out 0; clear hb3 HK2)
    go_wp2_with (go_at_call 48; refine (AIN.out _ _ rfl HB3.out).mono ?_; intro e v4 hh; obtain ⟨rfl, hb4⟩ := hh; have HB4 := Aside0.mk (HB3.out.trans (hb4.mono HB3.out.size)); clear hb4)
    go_roundw
    case rel => exact ⟨i + 1, by go_num, by omega, HB4, HF2⟩
    case measure => simp [intOf]; omega
   ·rw [decide_eq_false h3, Bool.false_and] at hf1; subst hf1; have y3 : (z != (i : Int)) = true := by simp [h3]
    clear h3; go_wp2_with (go_at_call 46; refine (NIN.out true _ N1.out).mono ?_; intro e v2 hh; obtain ⟨rfl, hb2⟩ := hh; have HB2 := Aside0.mk (HB1.out.trans (hb2.mono HB1.out.size)); have HK2 := Aside0.mk (blk_below HK1.out hb2); have y0 : v2.cell? ⟨wr.heap.size, 0, none⟩ = some (.string k.f0) := blk_cell HK2.out 0; have y1 : v2.cell? ⟨wr.heap.size, 1, none⟩ = some (.string k.f1) := blk_cell HK2.out 1; clear hb2 HK1)
    go_wp2_with (go_at_call 47; refine (VIN.out true _ N2.out HB2.out).mono ?_; intro e v3 hh; obtain ⟨rfl, hb3⟩ := hh; have HB3 := Aside0.mk (HB2.out.trans (hb3.mono HB2.out.size)); have HK3 := Aside0.mk (blk_below HK2.out hb3); clear y0 y1; have y0 : v3.cell? ⟨wr.heap.size, 0, none⟩ = some (.string k.f0) := blk_cell HK3.out 0; clear hb3 HK2)
    go_wp2_with (go_at_call 48; refine (AIN.out _ _ rfl HB3.out).mono ?_; intro e v4 hh; obtain ⟨rfl, hb4⟩ := hh; have HB4 := Aside0.mk (HB3.out.trans (hb4.mono HB3.out.size)); clear hb4)
    go_ret; exact ⟨rfl, HB4.out⟩
  ·obtain rfl : i = l0.length := by omega
   have hr := hf.out; rw [List.drop_length] at hr; have hr2 : true = R := hr; subst hr2; clear hr hf; go_wp2; go_ret; exact ⟨rfl, hb.out⟩
def blanksC : ByteArray := ⟨#[32, 9, 10, 12, 13]⟩
def trimP (s : ByteArray) : ByteArray := ⟨(Lib.trimS s.data.toList blanksC.data.toList).toArray⟩
theorem trim_calls (s : ByteArray) (w : World) (hs : s.size ≤ 9223372036854775807) : Calls Tryd.prog 45 #[.string s, .string blanksC] w fun e w' => e = .returned (.string (trimP s)) ∧ Below w.heap.size w w' :=
 Any.strings_Trim_laid Tryd.lays160 (by kernel_rfl) s blanksC w hs (by decide) (ascii_of_all (by decide))
theorem bel2 (w : World) (o1 o2 : Obj) : Below w.heap.size w ((w.alloc o1).alloc o2) :=
 have h : Below w.heap.size w (w.alloc o1) := (Below.refl _ _).alloc (Nat.le_refl _) o1; h.alloc h.size o2
theorem blk2_0 (w : World) (o1 o2 : Obj) : ((w.alloc o1).alloc o2).heap[w.heap.size]? = some o1 :=
 blk_below (blk_new w o1) ((Below.refl _ _).alloc (Nat.le_refl _) o2)
theorem blk2_1 (w : World) (o1 o2 : Obj) : ((w.alloc o1).alloc o2).heap[w.heap.size + 1]? = some o2 := by
 have := blk_new (w.alloc o1) o2; rwa [show (w.alloc o1).heap.size = w.heap.size + 1 by simp] at this
def textOk (n : S25) (box : Bool) : Bool := decide (n.f1.length = 0) && (decide (n.f3.length = 0) && (!n.f2.toList.isEmpty && (((anewB n.f2).toList == n.f2.toList) && !(box && (trimP n.f2).toList.isEmpty))))
def aroundV (d : Int) (box line li : Bool) : Value := .agg #[.int .i64 d, .bool box, .bool line, .bool li]
def lookNodeV (n : S25) (A1 : Option Addr) (c1 : Nat) (A3 : Option Addr) (c3 : Nat) : Value := .agg #[.int .i64 n.f0, .slice A1 n.f1.length c1, .string n.f2, .slice A3 n.f3.length c3]
set_option maxHeartbeats 4000000 in
set_option maxRecDepth 100000 in
theorem text_calls (p : Value) (n : S25) (A1 : Option Addr) (c1 : Nat) (A3 : Option Addr) (c3 : Nat) (d : Int) (box line li : Bool) (w : World) (hs : n.f2.size ≤ 70368744177664) (hm1 : n.f1.length ≤ 9223372036854775807) (hm3 : n.f3.length ≤ 9223372036854775807) :
 Calls Tryd.prog 38 #[p, lookNodeV n A1 c1 A3 c3, aroundV d box line li] w fun e w' => e = .returned (.bool (textOk n box)) ∧ Below w.heap.size w w' := by
 unfold lookNodeV aroundV; obtain ⟨R, hR⟩ : ∃ R, R = textOk n box := ⟨_, rfl⟩; rw [← hR]; have HS := Aside0.mk hs; have HT := Aside0.mk (show n.f2.size ≤ 9223372036854775807 by omega); have HBR := Aside0.mk (Below.refl w.heap.size w); clear hs; have HR := Aside0.mk hR.symm; clear hR; by_cases h1 : n.f1.length = 0
 ·have hr := HR.out; unfold textOk at hr; rw [decide_eq_true h1, Bool.true_and] at hr; by_cases h3 : n.f3.length = 0
  ·rw [decide_eq_true h3, Bool.true_and] at hr; cases h2 : n.f2.toList.isEmpty
   ·rw [h2, Bool.not_false, Bool.true_and] at hr; rw [h1, h3]; clear h1 h3; have b2 : (!n.f2.toList.isEmpty) = true := by rw [h2]; rfl
    have b3 : ¬ n.f2.toList = [] := by intro e; rw [e] at h2; cases h2
    clear h2; cases h4 : ((anewB n.f2).toList == n.f2.toList)
    ·rw [h4, Bool.false_and] at hr; have h5 : ((runesBytes (runesOf n.f2)).toList == n.f2.toList) = false := h4; clear h4 HR; subst hr; have HK0 := Aside0.mk (blk2_0 w (.cells #[.int .i64 n.f0, .slice A1 0 c1, .string n.f2, .slice A3 0 c3] 25) (.cells #[.int .i64 d, .bool box, .bool line, .bool li] 53)); have HK1 := Aside0.mk (blk2_1 w (.cells #[.int .i64 n.f0, .slice A1 0 c1, .string n.f2, .slice A3 0 c3] 25) (.cells #[.int .i64 d, .bool box, .bool line, .bool li] 53)); have H0 := Aside0.mk (bel2 w (.cells #[.int .i64 n.f0, .slice A1 0 c1, .string n.f2, .slice A3 0 c3] 25) (.cells #[.int .i64 d, .bool box, .bool line, .bool li] 53)); go_enter Tryd.func38, Tryd.ntmps38
     go_wp2_with (first | ((with_reducible refine gate_dst (N := 25) rfl ?_); go_must (refine gate_guard ?hw ?_); (case hw => first | rfl | decide | (simp [Region.wanted, yielded]; done)); go_must (refine runes_event rfl rfl n.f2 rfl Tryd.underlying9 Tryd.underlying71 Tryd.underlying21 HS.out ?_); intro c w1 hR hb; have HR1 := Aside0.mk hR; have y0 : w1.cell? ⟨w.heap.size, 2, none⟩ = some (.string n.f2) := by { rw [Lib.cell_of_heap (blk_below HK0.out hb)]; rfl }; have y1 : w1.cell? ⟨w.heap.size + 1, 1, none⟩ = some (.bool box) := by { rw [Lib.cell_of_heap (blk_below HK1.out hb)]; rfl }; have HB := Aside0.mk (H0.out.trans (hb.mono H0.out.size)); clear hR hb) | ((with_reducible refine gate_dst (N := 26) rfl ?_); go_must (refine gate_guard ?hw ?_); (case hw => first | rfl | decide | (simp [Region.wanted, yielded]; done)); go_must (refine string_event rfl rfl (runesOf n.f2) rfl Tryd.underlying71 Tryd.underlying21 Tryd.underlying9 ?hC ?_); (case hC => obtain ⟨A, c', he, _, hC⟩ := Kd.R_reads HR1.out; cases he; exact hC)))
     go_ret; exact ⟨by simp, HB.out⟩
    ·rw [h4, Bool.true_and] at hr; have h5 : ((runesBytes (runesOf n.f2)).toList == n.f2.toList) = true := h4; clear h4 HR; cases box
     ·rw [Bool.false_and] at hr; subst hr; have HK0 := Aside0.mk (blk2_0 w (.cells #[.int .i64 n.f0, .slice A1 0 c1, .string n.f2, .slice A3 0 c3] 25) (.cells #[.int .i64 d, .bool false, .bool line, .bool li] 53)); have HK1 := Aside0.mk (blk2_1 w (.cells #[.int .i64 n.f0, .slice A1 0 c1, .string n.f2, .slice A3 0 c3] 25) (.cells #[.int .i64 d, .bool false, .bool line, .bool li] 53)); have H0 := Aside0.mk (bel2 w (.cells #[.int .i64 n.f0, .slice A1 0 c1, .string n.f2, .slice A3 0 c3] 25) (.cells #[.int .i64 d, .bool false, .bool line, .bool li] 53)); go_enter Tryd.func38, Tryd.ntmps38
      go_wp2_with (first | ((with_reducible refine gate_dst (N := 25) rfl ?_); go_must (refine gate_guard ?hw ?_); (case hw => first | rfl | decide | (simp [Region.wanted, yielded]; done)); go_must (refine runes_event rfl rfl n.f2 rfl Tryd.underlying9 Tryd.underlying71 Tryd.underlying21 HS.out ?_); intro c w1 hR hb; have HR1 := Aside0.mk hR; have y0 : w1.cell? ⟨w.heap.size, 2, none⟩ = some (.string n.f2) := by { rw [Lib.cell_of_heap (blk_below HK0.out hb)]; rfl }; have y1 : w1.cell? ⟨w.heap.size + 1, 1, none⟩ = some (.bool false) := by { rw [Lib.cell_of_heap (blk_below HK1.out hb)]; rfl }; have HB := Aside0.mk (H0.out.trans (hb.mono H0.out.size)); clear hR hb) | ((with_reducible refine gate_dst (N := 26) rfl ?_); go_must (refine gate_guard ?hw ?_); (case hw => first | rfl | decide | (simp [Region.wanted, yielded]; done)); go_must (refine string_event rfl rfl (runesOf n.f2) rfl Tryd.underlying71 Tryd.underlying21 Tryd.underlying9 ?hC ?_); (case hC => obtain ⟨A, c', he, _, hC⟩ := Kd.R_reads HR1.out; cases he; exact hC)))
      go_ret; exact ⟨by simp, HB.out⟩
     ·rw [Bool.true_and] at hr; cases h6 : (trimP n.f2).toList.isEmpty
      ·rw [h6] at hr; subst hr; have b6 : ¬ (trimP n.f2).toList = [] := by intro e; rw [e] at h6; cases h6
       have HK0 := Aside0.mk (blk2_0 w (.cells #[.int .i64 n.f0, .slice A1 0 c1, .string n.f2, .slice A3 0 c3] 25) (.cells #[.int .i64 d, .bool true, .bool line, .bool li] 53)); have HK1 := Aside0.mk (blk2_1 w (.cells #[.int .i64 n.f0, .slice A1 0 c1, .string n.f2, .slice A3 0 c3] 25) (.cells #[.int .i64 d, .bool true, .bool line, .bool li] 53)); have H0 := Aside0.mk (bel2 w (.cells #[.int .i64 n.f0, .slice A1 0 c1, .string n.f2, .slice A3 0 c3] 25) (.cells #[.int .i64 d, .bool true, .bool line, .bool li] 53)); go_enter Tryd.func38, Tryd.ntmps38
       go_wp2_with (first | ((with_reducible refine gate_dst (N := 25) rfl ?_); go_must (refine gate_guard ?hw ?_); (case hw => first | rfl | decide | (simp [Region.wanted, yielded]; done)); go_must (refine runes_event rfl rfl n.f2 rfl Tryd.underlying9 Tryd.underlying71 Tryd.underlying21 HS.out ?_); intro c w1 hR hb; have HR1 := Aside0.mk hR; have y0 : w1.cell? ⟨w.heap.size, 2, none⟩ = some (.string n.f2) := by { rw [Lib.cell_of_heap (blk_below HK0.out hb)]; rfl }; have y1 : w1.cell? ⟨w.heap.size + 1, 1, none⟩ = some (.bool true) := by { rw [Lib.cell_of_heap (blk_below HK1.out hb)]; rfl }; have HB := Aside0.mk (H0.out.trans (hb.mono H0.out.size)); clear hR hb) | ((with_reducible refine gate_dst (N := 26) rfl ?_); go_must (refine gate_guard ?hw ?_); (case hw => first | rfl | decide | (simp [Region.wanted, yielded]; done)); go_must (refine string_event rfl rfl (runesOf n.f2) rfl Tryd.underlying71 Tryd.underlying21 Tryd.underlying9 ?hC ?_); (case hC => obtain ⟨A, c', he, _, hC⟩ := Kd.R_reads HR1.out; cases he; exact hC)) | (go_at_call 45; refine (trim_calls n.f2 _ HT.out).mono ?_; intro e v2 hh; obtain ⟨rfl, hd⟩ := hh; have HB2 := Aside0.mk (HB.out.trans (hd.mono HB.out.size)); clear hd))
       go_ret; exact ⟨by simp, HB2.out⟩
      ·rw [h6] at hr; subst hr; have b6 : (trimP n.f2).toList = [] := by simpa using h6
       have HK0 := Aside0.mk (blk2_0 w (.cells #[.int .i64 n.f0, .slice A1 0 c1, .string n.f2, .slice A3 0 c3] 25) (.cells #[.int .i64 d, .bool true, .bool line, .bool li] 53)); have HK1 := Aside0.mk (blk2_1 w (.cells #[.int .i64 n.f0, .slice A1 0 c1, .string n.f2, .slice A3 0 c3] 25) (.cells #[.int .i64 d, .bool true, .bool line, .bool li] 53)); have H0 := Aside0.mk (bel2 w (.cells #[.int .i64 n.f0, .slice A1 0 c1, .string n.f2, .slice A3 0 c3] 25) (.cells #[.int .i64 d, .bool true, .bool line, .bool li] 53)); go_enter Tryd.func38, Tryd.ntmps38
       go_wp2_with (first | ((with_reducible refine gate_dst (N := 25) rfl ?_); go_must (refine gate_guard ?hw ?_); (case hw => first | rfl | decide | (simp [Region.wanted, yielded]; done)); go_must (refine runes_event rfl rfl n.f2 rfl Tryd.underlying9 Tryd.underlying71 Tryd.underlying21 HS.out ?_); intro c w1 hR hb; have HR1 := Aside0.mk hR; have y0 : w1.cell? ⟨w.heap.size, 2, none⟩ = some (.string n.f2) := by { rw [Lib.cell_of_heap (blk_below HK0.out hb)]; rfl }; have y1 : w1.cell? ⟨w.heap.size + 1, 1, none⟩ = some (.bool true) := by { rw [Lib.cell_of_heap (blk_below HK1.out hb)]; rfl }; have HB := Aside0.mk (H0.out.trans (hb.mono H0.out.size)); clear hR hb) | ((with_reducible refine gate_dst (N := 26) rfl ?_); go_must (refine gate_guard ?hw ?_); (case hw => first | rfl | decide | (simp [Region.wanted, yielded]; done)); go_must (refine string_event rfl rfl (runesOf n.f2) rfl Tryd.underlying71 Tryd.underlying21 Tryd.underlying9 ?hC ?_); (case hC => obtain ⟨A, c', he, _, hC⟩ := Kd.R_reads HR1.out; cases he; exact hC)) | (go_at_call 45; refine (trim_calls n.f2 _ HT.out).mono ?_; intro e v2 hh; obtain ⟨rfl, hd⟩ := hh; have HB2 := Aside0.mk (HB.out.trans (hd.mono HB.out.size)); clear hd))
       go_ret; exact ⟨by simp, HB2.out⟩
   ·rw [h2, Bool.not_true, Bool.false_and] at hr; rw [h1, h3]; clear h1 h3 HR; subst hr; have b3 : n.f2.toList = [] := by simpa using h2
    go_enter Tryd.func38, Tryd.ntmps38
    go_wp2; go_ret; exact ⟨by simp, by first | exact (HBR.out.alloc (Nat.le_refl _) _).alloc (by simp) _⟩
  ·rw [decide_eq_false h3, Bool.false_and] at hr; rw [h1]; clear h1 HR; subst hr; have b3 : (((n.f3.length : Nat) : Int) == 0) = false := by simpa using h3
   clear h3; go_enter Tryd.func38, Tryd.ntmps38
   go_wp2; go_ret; exact ⟨by simp, by first | exact (HBR.out.alloc (Nat.le_refl _) _).alloc (by simp) _⟩
 ·have hr := HR.out; unfold textOk at hr; rw [decide_eq_false h1, Bool.false_and] at hr; clear HR; subst hr; have b1 : (((n.f1.length : Nat) : Int) == 0) = false := by simpa using h1
  clear h1; go_enter Tryd.func38, Tryd.ntmps38
  go_wp2; go_ret; exact ⟨by simp, by first | exact (HBR.out.alloc (Nat.le_refl _) _).alloc (by simp) _⟩
end Go.Proofs.YtbbikcmkcgoamaaDoor.Pp
