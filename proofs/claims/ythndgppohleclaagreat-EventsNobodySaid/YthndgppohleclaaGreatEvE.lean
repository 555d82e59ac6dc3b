/-
  events.Order at three levels.
-/
import Derived.Test.YthndgppohleclaaGreatEvD
namespace Go.Proofs.YthndgppohleclaaGreat.Ev
open Go.RowKit Go.Proofs.YthndgppohleclaaGreatW.PrintWords Go.Proofs.YthndgppohleclaaGreatW.PrintLast Go.Proofs.YthndgppohleclaaGreatW.PrintMore Go.Proofs.YthndgppohleclaaGreat.PEventsNobody
set_option linter.unusedVariables false
set_option linter.unusedSimpArgs false

theorem picks_len (level phase capture : Int) : ∀ (l : List S50) (i : Nat), (picks level phase capture l i).length ≤ l.length
  | [], _ => Nat.le_refl _
  | x :: l, i => by
    have h := picks_len level phase capture l (i + 1)
    unfold picks
    split
    · simp only [List.length_cons]; omega
    · simp only [List.length_cons]; omega
/-- ST, and how many there are at most. -/
def SN (w : World) (A0 : Option Addr) (n c0 : Nat) (O : List (Int × Int × Int)) (k : Nat) (u : World) : Prop := ST w A0 n c0 O u ∧ O.length ≤ k * 100
theorem at2_calls (l0 : List S50) (w : World) (A0 : Option Addr) (c0 : Nat) (hr0 : Kd.C k50 w A0 l0.length l0) (hl0 : l0.length ≤ 100) (O : List (Int × Int × Int)) (k : Nat) (hk : k ≤ 9) (level phase capture : Int) (u : World) (hu : SN w A0 l0.length c0 O k u) :
    Calls Tryz.prog 24 #[.int .i64 level, .int .i64 phase, .int .i64 capture, .pointer (some ⟨w.heap.size, 0, none⟩), .pointer (some ⟨w.heap.size + 2, 0, none⟩), .pointer (some ⟨w.heap.size + 1, 0, none⟩), .pointer (some ⟨w.heap.size + 3, 0, none⟩)] u fun e w' => e = .returned (.tuple #[]) ∧ SN w A0 l0.length c0 (O ++ picks level phase capture l0 0) (k + 1) w' := by
  have hn := hu.2
  refine (at_calls l0 w A0 c0 hr0 O (by omega) (by omega) level phase capture u hu.1).mono ?_
  rintro e v ⟨rfl, h⟩
  refine ⟨rfl, h, ?_⟩
  have := picks_len level phase capture l0 0
  rw [List.length_append]
  omega
theorem ST.start (w : World) (A0 : Option Addr) (n c0 : Nat) : ST w A0 n c0 [] ((((w.alloc (.cells #[.slice A0 n c0] 36)).alloc (.cells #[.int .i64 3] 3)).alloc (.cells #[.int .i64 0] 3)).alloc (.cells #[.slice none 0 0] 24)) := by
  have b2 : ((w.alloc (.cells #[.slice A0 n c0] 36)).alloc (.cells #[.int .i64 3] 3)).heap[w.heap.size + 1]? = some (.cells #[.int .i64 3] 3) := by have := blk_new (w.alloc (.cells #[.slice A0 n c0] 36)) (.cells #[.int .i64 3] 3); simpa using this
  have b3 : (((w.alloc (.cells #[.slice A0 n c0] 36)).alloc (.cells #[.int .i64 3] 3)).alloc (.cells #[.int .i64 0] 3)).heap[w.heap.size + 2]? = some (.cells #[.int .i64 0] 3) := by have := blk_new ((w.alloc (.cells #[.slice A0 n c0] 36)).alloc (.cells #[.int .i64 3] 3)) (.cells #[.int .i64 0] 3); simpa using this
  have b4 : ((((w.alloc (.cells #[.slice A0 n c0] 36)).alloc (.cells #[.int .i64 3] 3)).alloc (.cells #[.int .i64 0] 3)).alloc (.cells #[.slice none 0 0] 24)).heap[w.heap.size + 3]? = some (.cells #[.slice none 0 0] 24) := by have := blk_new (((w.alloc (.cells #[.slice A0 n c0] 36)).alloc (.cells #[.int .i64 3] 3)).alloc (.cells #[.int .i64 0] 3)) (.cells #[.slice none 0 0] 24); simpa using this
  exact ⟨((((Below.refl w.heap.size w).alloc (Nat.le_refl _) _).alloc (by simp) _).alloc (by simp; omega) _).alloc (by simp; omega) _, blk_alloc (blk_alloc (blk_alloc (blk_new w _) _) _) _, blk_alloc (blk_alloc b2 _) _, blk_alloc b3 _, _, b4, rfl, .inl ⟨rfl, rfl⟩⟩
def ups (l0 : List S50) : Nat → List (Int × Int × Int)
  | 0 => []
  | i + 1 => ups l0 i ++ picks (i : Int) 1 1 l0 0
def downs (l0 : List S50) : Nat → List (Int × Int × Int)
  | 0 => (ups l0 2 ++ picks 2 2 1 l0 0) ++ picks 2 2 0 l0 0
  | j + 1 => downs l0 j ++ picks (1 - (j : Int)) 3 0 l0 0
set_option maxHeartbeats 4000000 in
set_option maxRecDepth 100000 in
theorem order_calls (l0 : List S50) (w : World) (A0 : Option Addr) (c0 : Nat) (hr0 : Kd.C k50 w A0 l0.length l0) (hl0 : l0.length ≤ 100) :
    Calls Tryz.prog 10 #[.slice A0 l0.length c0, .int .i64 3, .int .i64 0] w fun e w' => ∃ vo, e = .returned vo ∧ w'.ownsRow (w.heap.size + 4) 46 3 vo (downs l0 2).length (cellsO (downs l0 2)) ∧ Below w.heap.size w w' := by
  have H0 := Aside0.mk hr0
  have S0 := Aside0.mk (show SN w A0 l0.length c0 (ups l0 0) 0 _ from ⟨ST.start w A0 l0.length c0, Nat.zero_le _⟩)
  clear hr0
  go_enter Tryz.func10, Tryz.ntmps10
  go_wp2
  go_loopw [20] (fun v20 wr => ∃ (i : Nat), v20 = .int .i64 i ∧ i ≤ 2 ∧ Aside0 (SN w A0 l0.length c0 (ups l0 i) i wr)) (fun v20 _ => 2 - (intOf v20).toNat)
  case atStart => exact ⟨0, rfl, by omega, S0⟩
  case round =>
    obtain ⟨i, rfl, hi, hs⟩ := hrel
    clear S0
    by_cases hlt : i < 2
    · have q2 : (i : Int) < 2 := by omega
      go_wp2_with (go_at_call 24; refine (at2_calls l0 w A0 c0 H0.out hl0 _ i (by omega) _ _ _ _ hs.out).mono ?_; intro e v hh; obtain ⟨rfl, hs2⟩ := hh; have HS := Aside0.mk hs2; clear hs2)
      go_roundw
      case rel => exact ⟨i + 1, by go_num, by omega, HS⟩
      case measure => simp [intOf]; omega
    · obtain rfl : i = 2 := by omega
      have y1 := blk_cell hs.out.1.2.2.1 0
      go_wp2_with (first | (go_at_call 24; refine (at2_calls l0 w A0 c0 H0.out hl0 _ 2 (by decide) _ _ _ _ hs.out).mono ?_; intro e v1 hh; obtain ⟨rfl, hs2⟩ := hh; have HS1 := Aside0.mk hs2; clear hs2 hs y1; have y1 := blk_cell HS1.out.1.2.2.1 0) | (go_at_call 24; refine (at2_calls l0 w A0 c0 H0.out hl0 _ 3 (by decide) _ _ _ _ HS1.out).mono ?_; intro e v2 hh; obtain ⟨rfl, hs2⟩ := hh; have HS2 := Aside0.mk hs2; clear hs2 HS1 y1; have y1 := blk_cell HS2.out.1.2.2.1 0))
      go_loopw [10] (fun v10 wr => ∃ (j : Nat) (a : Int), v10 = .int .i64 a ∧ a = 1 - (j : Int) ∧ j ≤ 2 ∧ Aside0 (SN w A0 l0.length c0 (downs l0 j) (4 + j) wr)) (fun v10 _ => (intOf v10 + 1).toNat)
      case atStart => exact ⟨0, 1, rfl, rfl, by omega, ⟨HS2.out⟩⟩
      case round =>
        obtain ⟨j, a, rfl, ha, hj, hs⟩ := hrel
        clear HS2 y1
        have hj3 : j = 0 ∨ j = 1 ∨ j = 2 := by omega
        rcases hj3 with rfl | rfl | rfl
        · obtain rfl : a = 1 := by omega
          clear ha
          go_wp2_with (go_at_call 24; refine (at2_calls l0 w A0 c0 H0.out hl0 _ 4 (by decide) _ _ _ _ hs.out).mono ?_; intro e v hh; obtain ⟨rfl, hs2⟩ := hh; have HS := Aside0.mk hs2; clear hs2 hs)
          go_roundw
          case rel => exact ⟨1, 0, by go_num, rfl, by omega, ⟨HS.out⟩⟩
          case measure => simp [intOf]
        · obtain rfl : a = 0 := by omega
          clear ha
          go_wp2_with (go_at_call 24; refine (at2_calls l0 w A0 c0 H0.out hl0 _ 5 (by decide) _ _ _ _ hs.out).mono ?_; intro e v hh; obtain ⟨rfl, hs2⟩ := hh; have HS := Aside0.mk hs2; clear hs2 hs)
          go_roundw
          case rel => exact ⟨2, -1, by go_num, rfl, by omega, ⟨HS.out⟩⟩
          case measure => simp [intOf]
        · obtain rfl : a = -1 := by omega
          obtain ⟨vo, hv5, hv6⟩ := hs.out.1.2.2.2.2
          have y3 := blk_cell hv5 0
          have hv := Aside0.mk hv6
          clear ha hv5 hv6
          go_wp2
          go_ret
          exact ⟨vo, rfl, hv.out, hs.out.1.1⟩
end Go.Proofs.YthndgppohleclaaGreat.Ev
