/-
  events.May: no act, no listener that may not be.
-/
import Derived.Test.YthndgppohleclaaGreatPEventsNobodyx1
import Derived.Deep.RegionHeld3
namespace Go.Proofs.YthndgppohleclaaGreat.Ev
open Go.RowKit Go.Proofs.YthndgppohleclaaGreatW.PrintWords Go.Proofs.YthndgppohleclaaGreatW.PrintLast Go.Proofs.YthndgppohleclaaGreatW.PrintMore Go.Proofs.YthndgppohleclaaGreat.PEventsNobody
set_option linter.unusedVariables false
set_option linter.unusedSimpArgs false

theorem idxAct_calls (A : Option Addr) (c : Nat) (f : Value) (w : World) :
    Calls Tryz.prog 29 #[.slice A 0 c, f] w fun e w' => e = .returned (.int .i64 (-1)) ∧ w' = w := by
  go_enter Tryz.func29, Tryz.ntmps29
  go_wp2
  go_loopw [8] (fun v8 wr => v8 = .int .i64 0 ∧ wr = w) (fun _ _ => 0)
  case atStart => exact ⟨rfl, rfl⟩
  case round =>
    obtain ⟨rfl, rfl⟩ := hrel
    go_wp2
    go_ret
    exact ⟨rfl, rfl⟩
theorem hasAct_calls (A : Option Addr) (c : Nat) (f : Value) (w : World) :
    Calls Tryz.prog 21 #[.slice A 0 c, f] w fun e w' => e = .returned (.bool false) ∧ w' = w := by
  go_enter Tryz.func21, Tryz.ntmps21
  go_wp2_with (go_at_call 29; refine (idxAct_calls _ _ _ _).mono ?_; intro e v hh; obtain ⟨rfl, rfl⟩ := hh)
  go_ret
  exact ⟨rfl, rfl⟩
set_option maxHeartbeats 4000000 in
theorem may1_calls (l c : Int) (A3 : Option Addr) (c3 : Nat) (hl : -1 ≤ l ∧ l ≤ 40) (hc : 0 ≤ c ∧ c ≤ 1) (w : World) :
    Calls Tryz.prog 20 #[.agg #[.int .i64 0, .int .i64 l, .int .i64 c, .slice A3 0 c3]] w fun e w' => e = .returned (.bool false) ∧ Below w.heap.size w w' := by
  have b1 : decide (l < -1) = false := decide_eq_false (by omega)
  have b2 : decide (40 < l) = false := decide_eq_false (by omega)
  have b3 : decide (c < 0) = false := decide_eq_false (by omega)
  have b4 : decide (1 < c) = false := decide_eq_false (by omega)
  go_enter Tryz.func20, Tryz.ntmps20
  go_wp2_with (go_at_call 21; refine (hasAct_calls _ _ _ _).mono ?_; intro e v hh; obtain ⟨rfl, rfl⟩ := hh)
  go_ret
  exact ⟨rfl, (Below.refl _ _).alloc (Nat.le_refl _) _⟩

/-- A listener that may be, without acts. -/
def okL (x : S50) : Prop := x.f0 = 0 ∧ -1 ≤ x.f1 ∧ x.f1 ≤ 40 ∧ 0 ≤ x.f2 ∧ x.f2 ≤ 1 ∧ x.f3 = []
set_option maxHeartbeats 4000000 in
theorem idxL_calls (l0 : List S50) (hok : ∀ x ∈ l0, okL x) (A0 : Option Addr) (c0 : Nat) (w : World) (hr0 : Kd.C k50 w A0 l0.length l0) :
    Calls Tryz.prog 28 #[.slice A0 l0.length c0, .func (.func 20) #[] #[]] w fun e w' => e = .returned (.int .i64 (-1)) ∧ Below w.heap.size w w' := by
  have H0 := Aside0.mk hr0
  have HOK := Aside0.mk hok
  have H2 := hr0.2.1
  clear hr0 hok
  go_enter Tryz.func28, Tryz.ntmps28
  go_wp2
  go_loopw [8] (fun v8 wr => ∃ (i : Nat), v8 = .int .i64 i ∧ i ≤ l0.length ∧ Aside0 (Below w.heap.size w wr)) (fun v8 _ => l0.length - (intOf v8).toNat)
  case atStart => exact ⟨0, rfl, Nat.zero_le _, ⟨Below.refl _ _⟩⟩
  case round =>
    obtain ⟨i, rfl, hi, hb⟩ := hrel
    by_cases hlt : i < l0.length
    · have q1 : (0 : Int) ≤ (i : Int) := by omega
      have q2 : (i : Int) < (l0.length : Int) := by omega
      obtain ⟨ad, A3, c3, eA, hx0, hx1, hx2, hx3, _⟩ := at_T50 H0.out (i : Int) q1 q2
      have hrd : rd_T50 l0 (i : Int) = l0[i] := by simp [rd_T50, List.getD_eq_getElem?_getD, List.getElem?_eq_getElem hlt]
      rw [hrd] at hx0 hx1 hx2 hx3
      obtain ⟨o0, o1, o2, o3, o4, o5⟩ := HOK.out _ (List.getElem_mem hlt)
      rw [o0] at hx0
      rw [o5] at hx3
      generalize l0[i] = k at *
      subst eA
      simp only [Int.toNat_natCast] at hx0 hx1 hx2 hx3
      replace hx0 := (hb.out.cell (World.block_lt_of_cell? w _ hx0)).trans hx0
      replace hx1 := (hb.out.cell (World.block_lt_of_cell? w _ hx1)).trans hx1
      replace hx2 := (hb.out.cell (World.block_lt_of_cell? w _ hx2)).trans hx2
      replace hx3 := (hb.out.cell (World.block_lt_of_cell? w _ hx3)).trans hx3
      have HM := Aside0.mk (may1_calls k.f1 k.f2 A3 c3 ⟨o1, o2⟩ ⟨o3, o4⟩ wr)
      clear hrd
      go_wp2_with (go_at_call 20; refine HM.out.mono ?_; intro e v2 hh; obtain ⟨rfl, hbb⟩ := hh; have HB2 := Aside0.mk (hb.out.trans (hbb.mono hb.out.size)); clear hbb)
      go_roundw
      case rel => exact ⟨i + 1, by go_num, by omega, HB2⟩
      case measure => simp [intOf]; omega
    · obtain rfl : i = l0.length := by omega
      go_wp2
      go_ret
      exact ⟨rfl, hb.out⟩
theorem hasL_calls (l0 : List S50) (hok : ∀ x ∈ l0, okL x) (A0 : Option Addr) (c0 : Nat) (w : World) (hr0 : Kd.C k50 w A0 l0.length l0) :
    Calls Tryz.prog 19 #[.slice A0 l0.length c0, .func (.func 20) #[] #[]] w fun e w' => e = .returned (.bool false) ∧ Below w.heap.size w w' := by
  have HI := Aside0.mk (idxL_calls l0 hok A0 c0 w hr0)
  go_enter Tryz.func19, Tryz.ntmps19
  go_wp2_with (go_at_call 28; refine HI.out.mono ?_; intro e v2 hh; obtain ⟨rfl, hbb⟩ := hh; have HB2 := Aside0.mk hbb; clear hbb)
  go_ret
  exact ⟨rfl, HB2.out⟩
theorem may_calls (l0 : List S50) (hok : ∀ x ∈ l0, okL x) (A0 : Option Addr) (c0 : Nat) (w : World) (hr0 : Kd.C k50 w A0 l0.length l0) :
    Calls Tryz.prog 8 #[.slice A0 l0.length c0] w fun e w' => e = .returned (.bool true) ∧ Below w.heap.size w w' := by
  have HI := Aside0.mk (hasL_calls l0 hok A0 c0 w hr0)
  go_enter Tryz.func8, Tryz.ntmps8
  go_wp2_with (go_at_call 19; refine HI.out.mono ?_; intro e v2 hh; obtain ⟨rfl, hbb⟩ := hh; have HB2 := Aside0.mk hbb; clear hbb)
  go_ret
  exact ⟨rfl, HB2.out⟩
end Go.Proofs.YthndgppohleclaaGreat.Ev
