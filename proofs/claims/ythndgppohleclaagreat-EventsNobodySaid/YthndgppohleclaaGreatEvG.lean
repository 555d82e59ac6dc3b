/-
  EventsNobody: the walk.
-/
import Derived.Test.YthndgppohleclaaGreatEvF
namespace Go.Proofs.YthndgppohleclaaGreat.Ev
open Go.RowKit Go.Proofs.YthndgppohleclaaGreatW.PrintWords Go.Proofs.YthndgppohleclaaGreatW.PrintLast Go.Proofs.YthndgppohleclaaGreatW.PrintMore Go.Proofs.YthndgppohleclaaGreat.PEventsNobody
set_option linter.unusedVariables false
set_option linter.unusedSimpArgs false

theorem dispatch_nil2 (w : World) : Calls Tryz.prog 4 #[.pointer none, .int .i64 0, .int .i64 0, .slice none 0 0, .agg #[.int .i64 0, .string ⟨#[]⟩, .string ⟨#[]⟩]] w fun e w' => e = .returned (.tuple #[.agg #[.int .i64 0, .string ⟨#[]⟩, .string ⟨#[]⟩, .slice none 0 0, .int .i64 0, .int .i64 0], .int .i64 1]) ∧ Below w.heap.size w w' := dispatch_nil w
theorem dispatch_t2 (p q : Nat) (w : World) (h0 : w.cell? ⟨p, 0, none⟩ = some (.pointer (some ⟨q, 0, none⟩))) (h1 : w.cell? ⟨p, 1, none⟩ = some (.slice none 0 0)) :
    Calls Tryz.prog 4 #[.pointer (some ⟨p, 0, none⟩), .int .i64 0, .int .i64 0, .slice none 0 0, .agg #[.int .i64 0, .string ⟨#[]⟩, .string ⟨#[]⟩]] w fun e w' => e = .returned (.tuple #[.agg #[.int .i64 0, .string ⟨#[]⟩, .string ⟨#[]⟩, .slice none 0 0, .int .i64 0, .int .i64 0], .int .i64 1]) ∧ Below w.heap.size w w' := dispatch_t p q w h0 h1
theorem below_at {B : Nat} {w v v' : World} (h : Below B w v) (hB : B ≤ v.heap.size) (o : Obj) (hb : Below (v.alloc o).heap.size (v.alloc o) v') : Below B w v' :=
  (h.alloc hB o).trans (hb.mono (by have := h.size; simp; omega))
set_option maxHeartbeats 4000000 in
set_option maxRecDepth 100000 in
theorem nobody_calls (w : World) : Calls Tryz.prog 3 #[] w fun e w' => e = .returned (.bool true) ∧ Below w.heap.size w w' := by
  have W0 := Aside0.mk (Below.refl w.heap.size w)
  have M0 : True := trivial
  have M1 : True := trivial
  go_enter Tryz.func3, Tryz.ntmps3
  go_wp2_with (first | (go_at_call 4; clear M0; refine (dispatch_nil2 _).mono ?_; intro e v1 hh; obtain ⟨rfl, hb⟩ := hh; replace W0 := Aside0.mk (W0.out.trans (hb.mono W0.out.size)); clear hb) | (go_at_call 5; refine (liveNew_calls _).mono ?_; intro e v2 hh; obtain ⟨p, q, rfl, hp, hb⟩ := hh; have HP := Aside0.mk hp; replace W0 := Aside0.mk (below_at W0.out W0.out.size _ hb); clear hb hp) | (go_at_call 4; refine (dispatch_t2 p q _ (blk_cell HP.out 0) (blk_cell HP.out 1)).mono ?_; intro e v3 hh; obtain ⟨rfl, hb⟩ := hh; replace W0 := Aside0.mk (W0.out.trans (hb.mono W0.out.size)); replace HP := Aside0.mk (blk_alloc (blk_below HP.out hb) (.cells #[.int .i64 0, .string ⟨#[]⟩, .string ⟨#[]⟩, .slice none 0 0, .int .i64 0, .int .i64 0] 26)); clear hb) | (go_at_call 6; clear M1; refine (way_nil _).mono ?_; intro e v4 hh; obtain ⟨rfl, hb⟩ := hh; replace W0 := Aside0.mk (below_at W0.out W0.out.size _ hb); replace HP := Aside0.mk (blk_below HP.out hb); clear hb) | (go_at_call 6; refine (way_t p q _ (blk_cell HP.out 0) (blk_cell HP.out 1)).mono ?_; intro e v5 hh; obtain ⟨rfl, hb⟩ := hh; replace W0 := Aside0.mk (W0.out.trans (hb.mono W0.out.size)); clear hb) | (go_at_call 7; refine (awake_calls _).mono ?_; intro e v6 hh; obtain ⟨rfl, hb⟩ := hh; replace W0 := Aside0.mk (W0.out.trans (hb.mono W0.out.size)); clear hb))
  go_ret
  exact ⟨rfl, W0.out⟩
end Go.Proofs.YthndgppohleclaaGreat.Ev
