/-
  events.Order: the closure that goes through the listeners.
-/
import Derived.Test.YthndgppohleclaaGreatEvC
namespace Go.Proofs.YthndgppohleclaaGreat.Ev
open Go.RowKit Go.Proofs.YthndgppohleclaaGreatW.PrintWords Go.Proofs.YthndgppohleclaaGreatW.PrintLast Go.Proofs.YthndgppohleclaaGreatW.PrintMore Go.Proofs.YthndgppohleclaaGreat.PEventsNobody
set_option linter.unusedVariables false
set_option linter.unusedSimpArgs false
attribute [local go_sem ↓ high] hide_append

theorem info46 : (Tryz.prog.info? 46).map (fun i => (i.zero, i.size, i.bytes)) = some (some (.agg #[.int .i64 0, .int .i64 0, .int .i64 0]), 3, 24) := by kernel_rfl
/-- The cells of those that are called. -/
def cellsO (O : List (Int × Int × Int)) : List Value := O.flatMap (fun x => [.int .i64 x.1, .int .i64 x.2.1, .int .i64 x.2.2])
theorem cellsO_app (O : List (Int × Int × Int)) (x : Int × Int × Int) : cellsO (O ++ [x]) = cellsO O ++ [.int .i64 x.1, .int .i64 x.2.1, .int .i64 x.2.2] := by simp [cellsO]
/-- What stands while Order goes on: its boxes (the listeners, the levels, the kind, what is called), begun in the world w. -/
def ST (w : World) (A0 : Option Addr) (n c0 : Nat) (O : List (Int × Int × Int)) (u : World) : Prop :=
  Below w.heap.size w u ∧ u.heap[w.heap.size]? = some (.cells #[.slice A0 n c0] 36 (0, 0)) ∧ u.heap[w.heap.size + 1]? = some (.cells #[.int .i64 3] 3 (0, 0)) ∧ u.heap[w.heap.size + 2]? = some (.cells #[.int .i64 0] 3 (0, 0)) ∧
    ∃ vo, u.heap[w.heap.size + 3]? = some (.cells #[vo] 24 (0, 0)) ∧ u.ownsRow (w.heap.size + 4) 46 3 vo O.length (cellsO O)
section
variable {w u w1 : World} {A0 : Option Addr} {n c0 : Nat} {O : List (Int × Int × Int)}
theorem ST.alloc (h : ST w A0 n c0 O u) (o : Obj) : ST w A0 n c0 O (u.alloc o) := by
  obtain ⟨h1, h2, h3, h4, vo, h5, h6⟩ := h
  exact ⟨h1.alloc (Nat.le_of_lt (blk_lt h2)) o, blk_alloc h2 o, blk_alloc h3 o, blk_alloc h4 o, vo, blk_alloc h5 o, h6.alloc o⟩
theorem ST.app (h : ST w A0 n c0 O u) (hb : Below (w.heap.size + 4) u w1) {v1 : Value} (x : Int × Int × Int) (ho : w1.ownsRow (w.heap.size + 4) 46 3 v1 (O.length + 1) (cellsO O ++ [.int .i64 x.1, .int .i64 x.2.1, .int .i64 x.2.2])) :
    ST w A0 n c0 (O ++ [x]) (w1.setCell ⟨w.heap.size + 3, 0, none⟩ v1) := by
  obtain ⟨h1, h2, h3, h4, vo, h5, h6⟩ := h
  have k := (KeepBut.refl w1 (w.heap.size + 3) none).set_ 0 v1
  have g2 := (hb.block (w.heap.size) (by omega)).trans h2
  have g3 := (hb.block (w.heap.size + 1) (by omega)).trans h3
  have g4 := (hb.block (w.heap.size + 2) (by omega)).trans h4
  have g5 := (hb.block (w.heap.size + 3) (by omega)).trans h5
  refine ⟨(h1.trans (hb.mono (by omega))).setCell (by simp) v1, k.blk g2 (by omega) (by simp), k.blk g3 (by omega) (by simp), k.blk g4 (by omega) (by simp), v1, blk_put g5 0 v1 rfl, ?_⟩
  rw [cellsO_app, List.length_append]
  obtain ⟨a1, a2⟩ := ho
  refine ⟨a1, ?_⟩
  rcases a2 with a2 | ⟨g, cap, cur, b1, b2, b3, b4⟩
  · exact .inl a2
  · exact .inr ⟨g, cap, cur, b1, b2, k.blk b3 (by omega) (by simp), b4⟩
end
theorem own_slice {w : World} {B e sz n : Nat} {v : Value} {xs : List Value} (h : w.ownsRow B e sz v n xs) : ∃ A c, v = .slice A n c := by
  obtain ⟨_, ⟨rfl, rfl⟩ | ⟨g, cap, cur, rfl, _⟩⟩ := h
  · exact ⟨_, _, rfl⟩
  · exact ⟨_, _, rfl⟩
def condL (x : S50) (level capture : Int) : Bool := (x.f0 == 0) && (x.f2 == capture) && (x.f1 == level || (x.f1 == -1 && level == 2))
def picks (level phase capture : Int) : List S50 → Nat → List (Int × Int × Int)
  | [], _ => []
  | x :: l, i => if condL x level capture then ((i : Int), level, phase) :: picks level phase capture l (i + 1) else picks level phase capture l (i + 1)
set_option maxHeartbeats 4000000 in
set_option maxRecDepth 100000 in
theorem at_calls (l0 : List S50) (w : World) (A0 : Option Addr) (c0 : Nat) (hr0 : Kd.C k50 w A0 l0.length l0) (O : List (Int × Int × Int)) (hO : O.length ≤ 1000) (hl0 : l0.length ≤ 1000) (level phase capture : Int) (u : World) (hu : ST w A0 l0.length c0 O u) :
    Calls Tryz.prog 24 #[.int .i64 level, .int .i64 phase, .int .i64 capture, .pointer (some ⟨w.heap.size, 0, none⟩), .pointer (some ⟨w.heap.size + 2, 0, none⟩), .pointer (some ⟨w.heap.size + 1, 0, none⟩), .pointer (some ⟨w.heap.size + 3, 0, none⟩)] u fun e w' => e = .returned (.tuple #[]) ∧ ST w A0 l0.length c0 (O ++ picks level phase capture l0 0) w' := by
  obtain ⟨R, hR⟩ : ∃ R, R = O ++ picks level phase capture l0 0 := ⟨_, rfl⟩
  rw [← hR]
  have HR := Aside0.mk hR.symm
  have H0 := Aside0.mk hr0
  have HU := Aside0.mk hu
  have H2 := hr0.2.1
  have x0 := blk_cell hu.2.1 0
  clear hR hr0 hu
  go_enter Tryz.func24, Tryz.ntmps24
  go_wp2
  go_loopw [14] (fun v14 wr => ∃ (i : Nat) (Oi : List (Int × Int × Int)), v14 = .int .i64 i ∧ i ≤ l0.length ∧ Aside0 (Oi.length ≤ 1000 + i) ∧ Aside0 (ST w A0 l0.length c0 Oi wr) ∧ Aside0 (Oi ++ picks level phase capture (l0.drop i) i = R)) (fun v14 _ => l0.length - (intOf v14).toNat)
  case atStart => exact ⟨0, O, rfl, Nat.zero_le _, ⟨hO⟩, HU, HR⟩
  case round =>
    obtain ⟨i, Oi, rfl, hi, hn, hs, hf⟩ := hrel
    by_cases hlt : i < l0.length
    · have q1 : (0 : Int) ≤ (i : Int) := by omega
      have q2 : (i : Int) < (l0.length : Int) := by omega
      obtain ⟨ad, A3, c3, eA, hx0, hx1, hx2, hx3, _⟩ := at_T50 H0.out (i : Int) q1 q2
      have hrd : rd_T50 l0 (i : Int) = l0[i] := by simp [rd_T50, List.getD_eq_getElem?_getD, List.getElem?_eq_getElem hlt]
      rw [hrd] at hx0 hx1 hx2 hx3
      have hd : l0.drop i = l0[i] :: l0.drop (i + 1) := List.drop_eq_getElem_cons hlt
      have HF := Aside0.mk (show Oi ++ (if condL l0[i] level capture then ((i : Int), level, phase) :: picks level phase capture (l0.drop (i + 1)) (i + 1) else picks level phase capture (l0.drop (i + 1)) (i + 1)) = R by have := hf.out; rw [hd] at this; exact this)
      generalize l0[i] = k at *
      clear hrd hd hf
      subst eA
      simp only [Int.toNat_natCast] at hx0 hx1 hx2 hx3
      replace hx0 := (hs.out.1.cell (World.block_lt_of_cell? w _ hx0)).trans hx0
      replace hx1 := (hs.out.1.cell (World.block_lt_of_cell? w _ hx1)).trans hx1
      replace hx2 := (hs.out.1.cell (World.block_lt_of_cell? w _ hx2)).trans hx2
      replace hx3 := (hs.out.1.cell (World.block_lt_of_cell? w _ hx3)).trans hx3
      have X := Aside0.mk (hs.out.alloc (.cells #[.int .i64 k.f0, .int .i64 k.f1, .int .i64 k.f2, .slice A3 k.f3.length c3] 50))
      have y1 := blk_cell X.out.2.2.1 0
      have y2 := blk_cell X.out.2.2.2.1 0
      cases e1 : (k.f0 == 0)
      · have hc : condL k level capture = false := by simp [condL, e1]
        have HF2 := Aside0.mk (show Oi ++ picks level phase capture (l0.drop (i + 1)) (i + 1) = R from by have := HF.out; rw [hc, if_neg (by decide)] at this; exact this)
        clear HF hc
        go_wp2
        go_roundw
        case rel => exact ⟨i + 1, Oi, by go_num, by omega, ⟨by have := hn.out; omega⟩, X, HF2⟩
        case measure => simp [intOf]; omega
      · cases e2 : (k.f2 == capture)
        · have hc : condL k level capture = false := by simp [condL, e1, e2]
          have HF2 := Aside0.mk (show Oi ++ picks level phase capture (l0.drop (i + 1)) (i + 1) = R from by have := HF.out; rw [hc, if_neg (by decide)] at this; exact this)
          clear HF hc
          go_wp2
          go_roundw
          case rel => exact ⟨i + 1, Oi, by go_num, by omega, ⟨by have := hn.out; omega⟩, X, HF2⟩
          case measure => simp [intOf]; omega
        · cases e3 : (k.f1 == level)
          · cases e4 : (k.f1 == -1)
            · have hc : condL k level capture = false := by simp [condL, e1, e2, e3, e4]
              have HF2 := Aside0.mk (show Oi ++ picks level phase capture (l0.drop (i + 1)) (i + 1) = R from by have := HF.out; rw [hc, if_neg (by decide)] at this; exact this)
              clear HF hc
              go_wp2
              go_roundw
              case rel => exact ⟨i + 1, Oi, by go_num, by omega, ⟨by have := hn.out; omega⟩, X, HF2⟩
              case measure => simp [intOf]; omega
            · cases e5 : (level == 2)
              · have hc : condL k level capture = false := by simp [condL, e1, e2, e3, e4, e5]
                have HF2 := Aside0.mk (show Oi ++ picks level phase capture (l0.drop (i + 1)) (i + 1) = R from by have := HF.out; rw [hc, if_neg (by decide)] at this; exact this)
                clear HF hc
                go_wp2
                go_roundw
                case rel => exact ⟨i + 1, Oi, by go_num, by omega, ⟨by have := hn.out; omega⟩, X, HF2⟩
                case measure => simp [intOf]; omega
              · have hc : condL k level capture = true := by simp [condL, e1, e2, e3, e4, e5]
                have HF2 := Aside0.mk (show (Oi ++ [((i : Int), level, phase)]) ++ picks level phase capture (l0.drop (i + 1)) (i + 1) = R from by have := HF.out; rw [hc, if_pos rfl] at this; simpa using this)
                clear HF hc
                obtain ⟨vo, hv5, hv6⟩ := X.out.2.2.2.2
                have y3 := blk_cell hv5 0
                have hv := Aside0.mk (And.intro hv5 hv6)
                clear hv5 hv6
                go_wp2_with ((with_reducible refine gate_builtin (b := .append) (xs := #[.tmp 46, .tmp 51]) rfl ?_); refine print_append_cells (w.heap.size + 4) rfl (.tmp 46) (.tmp 51) 24 46 (.agg #[.int .i64 0, .int .i64 0, .int .i64 0]) 3 24 rfl Tryz.underlying24 info46 rfl (by omega) (by omega) vo Oi.length (cellsO Oi) [.int .i64 i, .int .i64 level, .int .i64 phase] rfl (show _ = Value.slice (some ⟨(wr.alloc (.cells #[.int .i64 k.f0, .int .i64 k.f1, .int .i64 k.f2, .slice A3 k.f3.length c3] 50)).heap.size, 0, none⟩) 1 1 from by have e : (wr.alloc (.cells #[.int .i64 k.f0, .int .i64 k.f1, .int .i64 k.f2, .slice A3 k.f3.length c3] 50)).heap.size = wr.heap.size + 1 := (by simp); rw [e]; rfl) rfl (by intro u hu; simp only [List.mem_cons, List.not_mem_nil, or_false] at hu; rcases hu with rfl | rfl | rfl <;> rfl) hv.out.2 (Below.refl _ _) (by have := blk_lt hv.out.1; omega) (by have := hn.out; omega) ?_; intro v1 w1 ho hb hg hat; obtain ⟨Av, cv, rfl⟩ := own_slice ho; have g5 := (hb.block (w.heap.size + 3) (by omega)).trans hv.out.1; have f5 := blk_frozen g5 0; have z5 := blk_cell g5 0; have NX := Aside0.mk (X.out.app hb ((i : Int), level, phase) ho); clear ho hb hg hat g5)
                go_roundw
                case rel => exact ⟨i + 1, Oi ++ [((i : Int), level, phase)], by go_num, by omega, ⟨by have := hn.out; simp; omega⟩, NX, HF2⟩
                case measure => simp [intOf]; omega
          · have hc : condL k level capture = true := by simp [condL, e1, e2, e3]
            have HF2 := Aside0.mk (show (Oi ++ [((i : Int), level, phase)]) ++ picks level phase capture (l0.drop (i + 1)) (i + 1) = R from by have := HF.out; rw [hc, if_pos rfl] at this; simpa using this)
            clear HF hc
            obtain ⟨vo, hv5, hv6⟩ := X.out.2.2.2.2
            have y3 := blk_cell hv5 0
            have hv := Aside0.mk (And.intro hv5 hv6)
            clear hv5 hv6
            go_wp2_with ((with_reducible refine gate_builtin (b := .append) (xs := #[.tmp 46, .tmp 51]) rfl ?_); refine print_append_cells (w.heap.size + 4) rfl (.tmp 46) (.tmp 51) 24 46 (.agg #[.int .i64 0, .int .i64 0, .int .i64 0]) 3 24 rfl Tryz.underlying24 info46 rfl (by omega) (by omega) vo Oi.length (cellsO Oi) [.int .i64 i, .int .i64 level, .int .i64 phase] rfl (show _ = Value.slice (some ⟨(wr.alloc (.cells #[.int .i64 k.f0, .int .i64 k.f1, .int .i64 k.f2, .slice A3 k.f3.length c3] 50)).heap.size, 0, none⟩) 1 1 from by have e : (wr.alloc (.cells #[.int .i64 k.f0, .int .i64 k.f1, .int .i64 k.f2, .slice A3 k.f3.length c3] 50)).heap.size = wr.heap.size + 1 := (by simp); rw [e]; rfl) rfl (by intro u hu; simp only [List.mem_cons, List.not_mem_nil, or_false] at hu; rcases hu with rfl | rfl | rfl <;> rfl) hv.out.2 (Below.refl _ _) (by have := blk_lt hv.out.1; omega) (by have := hn.out; omega) ?_; intro v1 w1 ho hb hg hat; obtain ⟨Av, cv, rfl⟩ := own_slice ho; have g5 := (hb.block (w.heap.size + 3) (by omega)).trans hv.out.1; have f5 := blk_frozen g5 0; have z5 := blk_cell g5 0; have NX := Aside0.mk (X.out.app hb ((i : Int), level, phase) ho); clear ho hb hg hat g5)
            go_roundw
            case rel => exact ⟨i + 1, Oi ++ [((i : Int), level, phase)], by go_num, by omega, ⟨by have := hn.out; simp; omega⟩, NX, HF2⟩
            case measure => simp [intOf]; omega
    · obtain rfl : i = l0.length := by omega
      have hr := hf.out
      rw [List.drop_length] at hr
      have hr2 : Oi = R := by simpa [picks] using hr
      subst hr2
      go_wp2
      go_end0
      exact ⟨rfl, hs.out⟩
end Go.Proofs.YthndgppohleclaaGreat.Ev
