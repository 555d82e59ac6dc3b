/- Joined by merge.py of this session: words, walks and plain laws of this claim. -/
import Derived.Test.YtbbikcmkcgoamaaDoorPtsM13
import Derived.Test.YtbbikcmkcgoamaaDoorPtsM5
import Derived.Test.YtbbikcmkcgoamaaDoorPtsM6
import Derived.Deep.RegionHeld3
/-
  PrintParts: the walk.
-/
namespace Go.Proofs.YtbbikcmkcgoamaaDoor.Pp
open Go.RowKit Go.Proofs.YtbbikcmkcgoamaaDoorW.PrintWords Go.Proofs.YtbbikcmkcgoamaaDoorW.PrintLast Go.Proofs.YtbbikcmkcgoamaaDoorW.PrintMore Go.Proofs.YtbbikcmkcgoamaaDoor.My
set_option linter.unusedVariables false
set_option linter.unusedSimpArgs false

theorem ba_append (x y : List UInt8) : (⟨x.toArray⟩ : ByteArray) ++ ⟨y.toArray⟩ = ⟨(x ++ y).toArray⟩ := by
  apply ByteArray.ext
  simp
theorem ba_size (x : List UInt8) : (⟨x.toArray⟩ : ByteArray).size = x.length := by simp [ByteArray.size]

theorem ba_inj {x y : List UInt8} (h : (⟨x.toArray⟩ : ByteArray).toList = (⟨y.toArray⟩ : ByteArray).toList) : x = y := by
  have e : ∀ l : List UInt8, (⟨l.toArray⟩ : ByteArray).toList = l := fun l => by simp [ByteArray.toList_eq]
  rw [e, e] at h
  exact h
theorem outer_f (k : S25) (h : (nodeP k).length ≤ 70368744177664) : print_Outer.f k.f0 k.f1 k.f2 k.f3 = some ⟨(nodeP k).toArray⟩ := by
  cases k
  exact if_pos h

set_option maxHeartbeats 8000000 in
set_option maxRecDepth 100000 in
theorem parts_calls (n m : S25) (A1 : Option Addr) (c1 : Nat) (A3 : Option Addr) (c3 : Nat) (B1 : Option Addr) (d1 : Nat) (B3 : Option Addr) (d3 : Nat) (w : World)
    (h1 : Kd.C k47 w A1 n.f1.length n.f1) (l1 : n.f1.length ≤ c1) (h3 : Kd.C k25 w A3 n.f3.length n.f3) (l3 : n.f3.length ≤ c3)
    (g1 : Kd.C k47 w B1 m.f1.length m.f1) (e1 : m.f1.length ≤ d1) (g3 : Kd.C k25 w B3 m.f3.length m.f3) (e3 : m.f3.length ≤ d3) (hT : Tabs w)
    (k : Nat) (hn hm sm : Bool) (hhn : quillworklaw16_heavy.f k n.f0 n.f1 n.f2 n.f3 = some hn) (hhm : quillworklaw16_heavy.f k m.f0 m.f1 m.f2 m.f3 = some hm)
    (hsn : tsz n ≤ 70368744177664) (hsm : tsz m ≤ 70368744177664) (hkn : (kidsP n.f3).length ≤ 70368744177664) (hkm : (kidsP m.f3).length ≤ 70368744177664)
    (hsame : quillworkref08_SameNode.f k n.f0 n.f1 n.f2 n.f3 m.f0 m.f1 m.f2 m.f3 = some sm) (hlaw : normalP n = true → normalP m = true → (innerP n = innerP m ↔ sm = true)) :
    Calls Tryd.prog 4 #[.agg #[.int .i64 n.f0, .slice A1 n.f1.length c1, .string n.f2, .slice A3 n.f3.length c3], .agg #[.int .i64 m.f0, .slice B1 m.f1.length d1, .string m.f2, .slice B3 m.f3.length d3]] w fun e w' => e = .returned (.bool true) ∧ Below w.heap.size w w' := by
  have innle : ∀ (x : S25), (innerP x).length ≤ (kidsP x.f3).length := fun x => by unfold innerP; split <;> simp
  have HEN := Aside0.mk (show ∀ (v : World), Below w.heap.size w v → Calls Tryd.prog 5 #[.agg #[.int .i64 n.f0, .slice A1 n.f1.length c1, .string n.f2, .slice A3 n.f3.length c3]] v fun e w' => e = .returned (.bool hn) ∧ Below v.heap.size v w' from fun v hb => quillworklaw16_heavy.calls k n.f0 A1 c1 n.f1 n.f2 A3 c3 n.f3 hn v (Kd.C_below h1 hb) l1 (Kd.C_below h3 hb) l3 hhn)
  have HEM := Aside0.mk (show ∀ (v : World), Below w.heap.size w v → Calls Tryd.prog 5 #[.agg #[.int .i64 m.f0, .slice B1 m.f1.length d1, .string m.f2, .slice B3 m.f3.length d3]] v fun e w' => e = .returned (.bool hm) ∧ Below v.heap.size v w' from fun v hb => quillworklaw16_heavy.calls k m.f0 B1 d1 m.f1 m.f2 B3 d3 m.f3 hm v (Kd.C_below g1 hb) e1 (Kd.C_below g3 hb) e3 hhm)
  have INN := Aside0.mk (show ∀ (v : World), Below w.heap.size w v → Calls Tryd.prog 10 #[.agg #[.int .i64 n.f0, .slice A1 n.f1.length c1, .string n.f2, .slice A3 n.f3.length c3]] v fun e w' => e = .returned (.string ⟨(innerP n).toArray⟩) ∧ Below v.heap.size v w' from fun v hb => print_Inner.calls n.f0 A1 c1 n.f1 n.f2 A3 c3 n.f3 _ v (Kd.C_below h1 hb) l1 (Kd.C_below h3 hb) l3 (by unfold print_Inner.f outText; exact if_pos (Nat.le_trans (innle n) hkn)))
  have INM := Aside0.mk (show ∀ (v : World), Below w.heap.size w v → Calls Tryd.prog 10 #[.agg #[.int .i64 m.f0, .slice B1 m.f1.length d1, .string m.f2, .slice B3 m.f3.length d3]] v fun e w' => e = .returned (.string ⟨(innerP m).toArray⟩) ∧ Below v.heap.size v w' from fun v hb => print_Inner.calls m.f0 B1 d1 m.f1 m.f2 B3 d3 m.f3 _ v (Kd.C_below g1 hb) e1 (Kd.C_below g3 hb) e3 (by unfold print_Inner.f outText; exact if_pos (Nat.le_trans (innle m) hkm)))
  have NON := Aside0.mk (show ∀ (v : World), Below w.heap.size w v → Calls Tryd.prog 12 #[.agg #[.int .i64 n.f0, .slice A1 n.f1.length c1, .string n.f2, .slice A3 n.f3.length c3]] v fun e w' => e = .returned (.bool (normalP n)) ∧ Below v.heap.size v w' from fun v hb => print_Normal.calls n A1 c1 A3 c3 _ v (Kd.C_below h1 hb) l1 (Kd.C_below h3 hb) l3 (hT.below hb) (by unfold print_Normal.f; exact if_pos ⟨hsn, Nat.le_trans (innle n) hkn⟩))
  have NOM := Aside0.mk (show ∀ (v : World), Below w.heap.size w v → Calls Tryd.prog 12 #[.agg #[.int .i64 m.f0, .slice B1 m.f1.length d1, .string m.f2, .slice B3 m.f3.length d3]] v fun e w' => e = .returned (.bool (normalP m)) ∧ Below v.heap.size v w' from fun v hb => print_Normal.calls m B1 d1 B3 d3 _ v (Kd.C_below g1 hb) e1 (Kd.C_below g3 hb) e3 (hT.below hb) (by unfold print_Normal.f; exact if_pos ⟨hsm, Nat.le_trans (innle m) hkm⟩))
  have SAM := Aside0.mk (show ∀ (v : World), Below w.heap.size w v → Calls Tryd.prog 14 #[.agg #[.int .i64 n.f0, .slice A1 n.f1.length c1, .string n.f2, .slice A3 n.f3.length c3], .agg #[.int .i64 m.f0, .slice B1 m.f1.length d1, .string m.f2, .slice B3 m.f3.length d3]] v fun e w' => e = .returned (.bool sm) ∧ Below v.heap.size v w' from fun v hb => quillworkref08_SameNode.calls k n.f0 A1 c1 n.f1 n.f2 A3 c3 n.f3 m.f0 B1 d1 m.f1 m.f2 B3 d3 m.f3 sm v (Kd.C_below h1 hb) l1 (Kd.C_below h3 hb) l3 (Kd.C_below g1 hb) e1 (Kd.C_below g3 hb) e3 hsame)
  have H3 := Aside0.mk h3
  have HKN := Aside0.mk hkn
  have HT := Aside0.mk hT
  have q3 := h3.2.1
  have HINN := Aside0.mk (show n.f0 ≠ 0 → innerP n = kidsP n.f3 from fun h => by unfold innerP; rw [if_neg h])
  have AWA := Aside0.mk (show ∀ (v : World), Below w.heap.size w v → Calls Tryd.prog 6 #[] v fun e w' => e = .returned (.bool true) ∧ Below v.heap.size v w' from fun v hb => awake_calls v (hT.below hb))
  clear h1 l1 h3 l3 g1 e1 g3 e3 hT hhn hhm hsn hsm hkn hkm hsame innle
  have HB := Aside0.mk (bel2 w (.cells #[.int .i64 n.f0, .slice A1 n.f1.length c1, .string n.f2, .slice A3 n.f3.length c3] 25) (.cells #[.int .i64 m.f0, .slice B1 m.f1.length d1, .string m.f2, .slice B3 m.f3.length d3] 25))
  have K1 := Aside0.mk (blk2_0 w (.cells #[.int .i64 n.f0, .slice A1 n.f1.length c1, .string n.f2, .slice A3 n.f3.length c3] 25) (.cells #[.int .i64 m.f0, .slice B1 m.f1.length d1, .string m.f2, .slice B3 m.f3.length d3] 25))
  have K2 := Aside0.mk (blk2_1 w (.cells #[.int .i64 n.f0, .slice A1 n.f1.length c1, .string n.f2, .slice A3 n.f3.length c3] 25) (.cells #[.int .i64 m.f0, .slice B1 m.f1.length d1, .string m.f2, .slice B3 m.f3.length d3] 25))
  cases hn
  case true =>
    go_enter Tryd.func4, Tryd.ntmps4
    go_wp2_with (first | (go_at_call 5; refine (HEN.out _ HB.out).mono ?_; intro e v2 hh; obtain ⟨rfl, hb⟩ := hh; clear HEN; replace HB := Aside0.mk (HB.out.trans (hb.mono HB.out.size)); replace K1 := Aside0.mk (blk_below K1.out hb); replace K2 := Aside0.mk (blk_below K2.out hb); clear hb; have x0 : v2.cell? ⟨w.heap.size, 0, none⟩ = some (Value.int .i64 n.f0) := blk_cell K1.out 0; have x1 : v2.cell? ⟨w.heap.size, 1, none⟩ = some (Value.slice A1 n.f1.length c1) := blk_cell K1.out 1; have x2 : v2.cell? ⟨w.heap.size, 2, none⟩ = some (Value.string n.f2) := blk_cell K1.out 2; have x3 : v2.cell? ⟨w.heap.size, 3, none⟩ = some (Value.slice A3 n.f3.length c3) := blk_cell K1.out 3; have y0 : v2.cell? ⟨w.heap.size + 1, 0, none⟩ = some (Value.int .i64 m.f0) := blk_cell K2.out 0; have y1 : v2.cell? ⟨w.heap.size + 1, 1, none⟩ = some (Value.slice B1 m.f1.length d1) := blk_cell K2.out 1; have y2 : v2.cell? ⟨w.heap.size + 1, 2, none⟩ = some (Value.string m.f2) := blk_cell K2.out 2; have y3 : v2.cell? ⟨w.heap.size + 1, 3, none⟩ = some (Value.slice B3 m.f3.length d3) := blk_cell K2.out 3) | (go_at_call 6; refine (AWA.out _ HB.out).mono ?_; intro e v9 hh; obtain ⟨rfl, hb⟩ := hh; replace HB := Aside0.mk (HB.out.trans (hb.mono HB.out.size)); clear hb))
    go_ret
    exact ⟨rfl, HB.out⟩
  cases hm
  case true =>
    go_enter Tryd.func4, Tryd.ntmps4
    go_wp2_with (first | (go_at_call 5; refine (HEN.out _ HB.out).mono ?_; intro e v2 hh; obtain ⟨rfl, hb⟩ := hh; clear HEN; replace HB := Aside0.mk (HB.out.trans (hb.mono HB.out.size)); replace K1 := Aside0.mk (blk_below K1.out hb); replace K2 := Aside0.mk (blk_below K2.out hb); clear hb; have x0 : v2.cell? ⟨w.heap.size, 0, none⟩ = some (Value.int .i64 n.f0) := blk_cell K1.out 0; have x1 : v2.cell? ⟨w.heap.size, 1, none⟩ = some (Value.slice A1 n.f1.length c1) := blk_cell K1.out 1; have x2 : v2.cell? ⟨w.heap.size, 2, none⟩ = some (Value.string n.f2) := blk_cell K1.out 2; have x3 : v2.cell? ⟨w.heap.size, 3, none⟩ = some (Value.slice A3 n.f3.length c3) := blk_cell K1.out 3; have y0 : v2.cell? ⟨w.heap.size + 1, 0, none⟩ = some (Value.int .i64 m.f0) := blk_cell K2.out 0; have y1 : v2.cell? ⟨w.heap.size + 1, 1, none⟩ = some (Value.slice B1 m.f1.length d1) := blk_cell K2.out 1; have y2 : v2.cell? ⟨w.heap.size + 1, 2, none⟩ = some (Value.string m.f2) := blk_cell K2.out 2; have y3 : v2.cell? ⟨w.heap.size + 1, 3, none⟩ = some (Value.slice B3 m.f3.length d3) := blk_cell K2.out 3) | (go_at_call 5; refine (HEM.out _ HB.out).mono ?_; intro e v3 hh; obtain ⟨rfl, hb⟩ := hh; replace HB := Aside0.mk (HB.out.trans (hb.mono HB.out.size)); replace K1 := Aside0.mk (blk_below K1.out hb); replace K2 := Aside0.mk (blk_below K2.out hb); clear hb; clear x0 x1 x2 x3 y0 y1 y2 y3; have x0 : v3.cell? ⟨w.heap.size, 0, none⟩ = some (Value.int .i64 n.f0) := blk_cell K1.out 0; have x1 : v3.cell? ⟨w.heap.size, 1, none⟩ = some (Value.slice A1 n.f1.length c1) := blk_cell K1.out 1; have x2 : v3.cell? ⟨w.heap.size, 2, none⟩ = some (Value.string n.f2) := blk_cell K1.out 2; have x3 : v3.cell? ⟨w.heap.size, 3, none⟩ = some (Value.slice A3 n.f3.length c3) := blk_cell K1.out 3; have y0 : v3.cell? ⟨w.heap.size + 1, 0, none⟩ = some (Value.int .i64 m.f0) := blk_cell K2.out 0; have y1 : v3.cell? ⟨w.heap.size + 1, 1, none⟩ = some (Value.slice B1 m.f1.length d1) := blk_cell K2.out 1; have y2 : v3.cell? ⟨w.heap.size + 1, 2, none⟩ = some (Value.string m.f2) := blk_cell K2.out 2; have y3 : v3.cell? ⟨w.heap.size + 1, 3, none⟩ = some (Value.slice B3 m.f3.length d3) := blk_cell K2.out 3) | (go_at_call 6; refine (AWA.out _ HB.out).mono ?_; intro e v9 hh; obtain ⟨rfl, hb⟩ := hh; replace HB := Aside0.mk (HB.out.trans (hb.mono HB.out.size)); clear hb))
    go_ret
    exact ⟨rfl, HB.out⟩
  cases nn : normalP n
  · rw [nn] at NON
    clear nn hlaw
    go_enter Tryd.func4, Tryd.ntmps4
    go_wp2_with (first | (go_at_call 5; refine (HEN.out _ HB.out).mono ?_; intro e v2 hh; obtain ⟨rfl, hb⟩ := hh; clear HEN; replace HB := Aside0.mk (HB.out.trans (hb.mono HB.out.size)); replace K1 := Aside0.mk (blk_below K1.out hb); replace K2 := Aside0.mk (blk_below K2.out hb); clear hb; have x0 : v2.cell? ⟨w.heap.size, 0, none⟩ = some (Value.int .i64 n.f0) := blk_cell K1.out 0; have x1 : v2.cell? ⟨w.heap.size, 1, none⟩ = some (Value.slice A1 n.f1.length c1) := blk_cell K1.out 1; have x2 : v2.cell? ⟨w.heap.size, 2, none⟩ = some (Value.string n.f2) := blk_cell K1.out 2; have x3 : v2.cell? ⟨w.heap.size, 3, none⟩ = some (Value.slice A3 n.f3.length c3) := blk_cell K1.out 3; have y0 : v2.cell? ⟨w.heap.size + 1, 0, none⟩ = some (Value.int .i64 m.f0) := blk_cell K2.out 0; have y1 : v2.cell? ⟨w.heap.size + 1, 1, none⟩ = some (Value.slice B1 m.f1.length d1) := blk_cell K2.out 1; have y2 : v2.cell? ⟨w.heap.size + 1, 2, none⟩ = some (Value.string m.f2) := blk_cell K2.out 2; have y3 : v2.cell? ⟨w.heap.size + 1, 3, none⟩ = some (Value.slice B3 m.f3.length d3) := blk_cell K2.out 3) | (go_at_call 5; refine (HEM.out _ HB.out).mono ?_; intro e v3 hh; obtain ⟨rfl, hb⟩ := hh; replace HB := Aside0.mk (HB.out.trans (hb.mono HB.out.size)); replace K1 := Aside0.mk (blk_below K1.out hb); replace K2 := Aside0.mk (blk_below K2.out hb); clear hb; clear x0 x1 x2 x3 y0 y1 y2 y3; have x0 : v3.cell? ⟨w.heap.size, 0, none⟩ = some (Value.int .i64 n.f0) := blk_cell K1.out 0; have x1 : v3.cell? ⟨w.heap.size, 1, none⟩ = some (Value.slice A1 n.f1.length c1) := blk_cell K1.out 1; have x2 : v3.cell? ⟨w.heap.size, 2, none⟩ = some (Value.string n.f2) := blk_cell K1.out 2; have x3 : v3.cell? ⟨w.heap.size, 3, none⟩ = some (Value.slice A3 n.f3.length c3) := blk_cell K1.out 3; have y0 : v3.cell? ⟨w.heap.size + 1, 0, none⟩ = some (Value.int .i64 m.f0) := blk_cell K2.out 0; have y1 : v3.cell? ⟨w.heap.size + 1, 1, none⟩ = some (Value.slice B1 m.f1.length d1) := blk_cell K2.out 1; have y2 : v3.cell? ⟨w.heap.size + 1, 2, none⟩ = some (Value.string m.f2) := blk_cell K2.out 2; have y3 : v3.cell? ⟨w.heap.size + 1, 3, none⟩ = some (Value.slice B3 m.f3.length d3) := blk_cell K2.out 3))
    go_loopw [5, 6] (fun v5 v6 wr => ∃ (i : Nat), v6 = .int .i64 i ∧ v5 = .string ⟨(kidsP (n.f3.take i)).toArray⟩ ∧ i ≤ n.f3.length ∧ Aside0 (Below w.heap.size w wr) ∧ Aside0 (wr.heap[w.heap.size]? = some (.cells #[.int .i64 n.f0, .slice A1 n.f1.length c1, .string n.f2, .slice A3 n.f3.length c3] 25 (0, 0))) ∧ Aside0 (wr.heap[w.heap.size + 1]? = some (.cells #[.int .i64 m.f0, .slice B1 m.f1.length d1, .string m.f2, .slice B3 m.f3.length d3] 25 (0, 0)))) (fun v5 v6 _ => n.f3.length - (intOf v6).toNat)
    case atStart => exact ⟨0, rfl, rfl, Nat.zero_le _, HB, K1, K2⟩
    case round =>
      clear HB K1 K2 x0 x1 x2 x3 y0 y1 y2 y3
      obtain ⟨i, rfl, rfl, hi, HB, K1, K2⟩ := hrel
      have x0 : wr.cell? ⟨w.heap.size, 0, none⟩ = some (Value.int .i64 n.f0) := blk_cell K1.out 0; have x1 : wr.cell? ⟨w.heap.size, 1, none⟩ = some (Value.slice A1 n.f1.length c1) := blk_cell K1.out 1; have x2 : wr.cell? ⟨w.heap.size, 2, none⟩ = some (Value.string n.f2) := blk_cell K1.out 2; have x3 : wr.cell? ⟨w.heap.size, 3, none⟩ = some (Value.slice A3 n.f3.length c3) := blk_cell K1.out 3; have y0 : wr.cell? ⟨w.heap.size + 1, 0, none⟩ = some (Value.int .i64 m.f0) := blk_cell K2.out 0; have y1 : wr.cell? ⟨w.heap.size + 1, 1, none⟩ = some (Value.slice B1 m.f1.length d1) := blk_cell K2.out 1; have y2 : wr.cell? ⟨w.heap.size + 1, 2, none⟩ = some (Value.string m.f2) := blk_cell K2.out 2; have y3 : wr.cell? ⟨w.heap.size + 1, 3, none⟩ = some (Value.slice B3 m.f3.length d3) := blk_cell K2.out 3
      by_cases hlt : i < n.f3.length
      · have q1 : (0 : Int) ≤ (i : Int) := by omega
        have q2 : (i : Int) < (n.f3.length : Int) := by omega
        obtain ⟨ad, E1, f1, E3, f3, eA, hx0, hx1, hx2, hx3, m1, g1, m3, g3⟩ := at_T25 H3.out (i : Int) q1 q2
        have hrd : rd_T25 n.f3 (i : Int) = n.f3[i] := by simp [rd_T25, List.getD_eq_getElem?_getD, List.getElem?_eq_getElem hlt]
        rw [hrd] at hx0 hx1 hx2 hx3 m1 g1 m3 g3
        have HTK := Aside0.mk (kidsP_take n.f3 i hlt)
        have HTL := Aside0.mk (kidsP_take_le n.f3 (i + 1))
        generalize n.f3[i] = k2 at *
        clear hrd
        simp only [Int.toNat_natCast] at hx0 hx1 hx2 hx3
        subst eA
        replace hx0 := (HB.out.cell (World.block_lt_of_cell? w _ hx0)).trans hx0
        replace hx1 := (HB.out.cell (World.block_lt_of_cell? w _ hx1)).trans hx1
        replace hx2 := (HB.out.cell (World.block_lt_of_cell? w _ hx2)).trans hx2
        replace hx3 := (HB.out.cell (World.block_lt_of_cell? w _ hx3)).trans hx3
        have HLB := Aside0.mk (show (kidsP (n.f3.take i)).length + (nodeP k2).length ≤ 70368744177664 by have h1 := HTL.out; have h2 := HKN.out; rw [HTK.out, List.length_append] at h1; omega)
        have OUT := Aside0.mk (print_Outer.calls k2.f0 E1 f1 k2.f1 k2.f2 E3 f3 k2.f3 ⟨(nodeP k2).toArray⟩ wr (Kd.C_below g1 HB.out) m1 (Kd.C_below g3 HB.out) m3 (outer_f k2 (by have := HLB.out; omega)))
        have hadd : ∀ v : World, (Op.stringOp .add ⟨(kidsP (n.f3.take i)).toArray⟩ ⟨(nodeP k2).toArray⟩).run Tryd.prog v = .ok (.string (⟨(kidsP (n.f3.take i)).toArray⟩ ++ ⟨(nodeP k2).toArray⟩)) v := fun v => run_string_add_sum v _ _ (by rw [ba_size, ba_size]; have := HLB.out; omega)
        clear m1 g1 m3 g3
        go_wp2_with fail
        refine OUT.out.mono ?_
        intro e v4 hh
        obtain ⟨rfl, hb⟩ := hh
        clear x0 x1 x2 x3 y0 y1 y2 y3; replace HB := Aside0.mk (HB.out.trans (hb.mono HB.out.size)); replace K1 := Aside0.mk (blk_below K1.out hb); replace K2 := Aside0.mk (blk_below K2.out hb); clear hb
        go_wp2
        go_roundw
        case rel => exact ⟨i + 1, by go_num, by rw [HTK.out, ba_append], by omega, HB, K1, K2⟩
        case measure => simp [intOf]; omega
      · obtain rfl : i = n.f3.length := by omega
        rw [List.take_length]
        by_cases hz : n.f0 = 0
        · have b0 : (n.f0 != 0) = false := by simp [hz]
          clear hz HINN
          go_wp2
          refine wp_region_noPanic ?_
          refine wp_region_held_drew (S := (fun v => Below w.heap.size w v ∧ v.cell? ⟨w.heap.size, 0, none⟩ = some (Value.int .i64 n.f0) ∧ v.cell? ⟨w.heap.size, 1, none⟩ = some (Value.slice A1 n.f1.length c1) ∧ v.cell? ⟨w.heap.size, 2, none⟩ = some (Value.string n.f2) ∧ v.cell? ⟨w.heap.size, 3, none⟩ = some (Value.slice A3 n.f3.length c3) ∧ v.cell? ⟨w.heap.size + 1, 0, none⟩ = some (Value.int .i64 m.f0) ∧ v.cell? ⟨w.heap.size + 1, 1, none⟩ = some (Value.slice B1 m.f1.length d1) ∧ v.cell? ⟨w.heap.size + 1, 2, none⟩ = some (Value.string m.f2) ∧ v.cell? ⟨w.heap.size + 1, 3, none⟩ = some (Value.slice B3 m.f3.length d3))) (by kernel_rfl) ⟨HB.out.drew, x0, x1, x2, x3, y0, y1, y2, y3⟩ (fun hHeld => ?_)
          refine' wpAnyH_take (i := 0) (v := _) rfl (by kernel_rfl) (by kernel_rfl) (by kernel_rfl) (fun _ _ _ h => h) (Or.inl ⟨by rfl, ?hyq0x0⟩) (by assumption) ?restq0x0
          case hyq0x0 =>
            intro v hSw
            try dsimp only at hSw
            go_simp
            try with_reducible rfl
          try simp only [Act.put, List.getElem_toArray, List.getElem_cons_succ, List.getElem_cons_zero, List.setIfInBounds_toArray, List.set_cons_zero, List.set_cons_succ]
          refine wpAnyH_ready (rs := [1]) (by kernel_rfl) (by simp) ?_
          refine AllReadyH.cons rfl (fun K hK => ?_) AllReadyH.nil
          go_simp
          go_at_call 12
          replace HB := Aside0.mk HB.out.drew
          replace K1 := Aside0.mk (blk_drew K1.out)
          replace K2 := Aside0.mk (blk_drew K2.out)
          refine (NON.out _ HB.out).mono ?_
          intro e v5 hh
          obtain ⟨rfl, hb⟩ := hh
          clear NON
          replace HB := Aside0.mk (HB.out.trans (hb.mono HB.out.size))
          replace K1 := Aside0.mk (blk_below K1.out hb)
          replace K2 := Aside0.mk (blk_below K2.out hb)
          clear hb
          clear x0 x1 x2 x3 y0 y1 y2 y3
          have x0 : v5.cell? ⟨w.heap.size, 0, none⟩ = some (Value.int .i64 n.f0) := blk_cell K1.out 0
          have x1 : v5.cell? ⟨w.heap.size, 1, none⟩ = some (Value.slice A1 n.f1.length c1) := blk_cell K1.out 1
          have x2 : v5.cell? ⟨w.heap.size, 2, none⟩ = some (Value.string n.f2) := blk_cell K1.out 2
          have x3 : v5.cell? ⟨w.heap.size, 3, none⟩ = some (Value.slice A3 n.f3.length c3) := blk_cell K1.out 3
          have y0 : v5.cell? ⟨w.heap.size + 1, 0, none⟩ = some (Value.int .i64 m.f0) := blk_cell K2.out 0
          have y1 : v5.cell? ⟨w.heap.size + 1, 1, none⟩ = some (Value.slice B1 m.f1.length d1) := blk_cell K2.out 1
          have y2 : v5.cell? ⟨w.heap.size + 1, 2, none⟩ = some (Value.string m.f2) := blk_cell K2.out 2
          have y3 : v5.cell? ⟨w.heap.size + 1, 3, none⟩ = some (Value.slice B3 m.f3.length d3) := blk_cell K2.out 3
          go_wp2_with fail
          refine hK.out _ _ ⟨HB.out, x0, x1, x2, x3, y0, y1, y2, y3⟩ (fun hHeld => ?_)
          clear hK K
          try simp only [Act.put, List.getElem_toArray, List.getElem_cons_succ, List.getElem_cons_zero, List.setIfInBounds_toArray, List.set_cons_zero, List.set_cons_succ]
          refine' wpAnyH_take (i := 2) (v := _) rfl (by kernel_rfl) (by kernel_rfl) (by kernel_rfl) (fun _ _ _ h => h) (Or.inl ⟨by rfl, ?hyq0x2⟩) (by assumption) ?restq0x2
          case hyq0x2 =>
            intro v hSw
            try dsimp only at hSw
            go_simp
            try with_reducible rfl
          try simp only [Act.put, List.getElem_toArray, List.getElem_cons_succ, List.getElem_cons_zero, List.setIfInBounds_toArray, List.set_cons_zero, List.set_cons_succ]
          refine wpAnyH_take (i := 3) (v := undef) rfl (by kernel_rfl) (by kernel_rfl) (by kernel_rfl) (fun _ _ _ h => h) (Or.inr ⟨rfl, rfl⟩) (by assumption) ?_
          try simp only [Act.put, List.getElem_toArray, List.getElem_cons_succ, List.getElem_cons_zero, List.setIfInBounds_toArray, List.set_cons_zero, List.set_cons_succ]
          refine wpAnyH_take (i := 4) (v := undef) rfl (by kernel_rfl) (by kernel_rfl) (by kernel_rfl) (fun _ _ _ h => h) (Or.inr ⟨rfl, rfl⟩) (by assumption) ?_
          try simp only [Act.put, List.getElem_toArray, List.getElem_cons_succ, List.getElem_cons_zero, List.setIfInBounds_toArray, List.set_cons_zero, List.set_cons_succ]
          refine' wpAnyH_take (i := 5) (v := _) rfl (by kernel_rfl) (by kernel_rfl) (by kernel_rfl) (fun _ _ _ h => h) (Or.inl ⟨by rfl, ?hyq0x5⟩) (by assumption) ?restq0x5
          case hyq0x5 =>
            intro v hSw
            try dsimp only at hSw
            go_simp
            try with_reducible rfl
          try simp only [Act.put, List.getElem_toArray, List.getElem_cons_succ, List.getElem_cons_zero, List.setIfInBounds_toArray, List.set_cons_zero, List.set_cons_succ]
          refine' wpAnyH_take (i := 6) (v := _) rfl (by kernel_rfl) (by kernel_rfl) (by kernel_rfl) (fun _ _ _ h => h) (Or.inl ⟨by rfl, ?hyq0x6⟩) (by assumption) ?restq0x6
          case hyq0x6 =>
            intro v hSw
            try dsimp only at hSw
            go_simp
            try with_reducible rfl
          try simp only [Act.put, List.getElem_toArray, List.getElem_cons_succ, List.getElem_cons_zero, List.setIfInBounds_toArray, List.set_cons_zero, List.set_cons_succ]
          refine wpAnyH_take (i := 7) (v := undef) rfl (by kernel_rfl) (by kernel_rfl) (by kernel_rfl) (fun _ _ _ h => h) (Or.inr ⟨rfl, rfl⟩) (by assumption) ?_
          try simp only [Act.put, List.getElem_toArray, List.getElem_cons_succ, List.getElem_cons_zero, List.setIfInBounds_toArray, List.set_cons_zero, List.set_cons_succ]
          refine wpAnyH_take (i := 8) (v := undef) rfl (by kernel_rfl) (by kernel_rfl) (by kernel_rfl) (fun _ _ _ h => h) (Or.inr ⟨rfl, rfl⟩) (by assumption) ?_
          try simp only [Act.put, List.getElem_toArray, List.getElem_cons_succ, List.getElem_cons_zero, List.setIfInBounds_toArray, List.set_cons_zero, List.set_cons_succ]
          refine wpAnyH_take (i := 9) (v := undef) rfl (by kernel_rfl) (by kernel_rfl) (by kernel_rfl) (fun _ _ _ h => h) (Or.inr ⟨rfl, rfl⟩) (by assumption) ?_
          try simp only [Act.put, List.getElem_toArray, List.getElem_cons_succ, List.getElem_cons_zero, List.setIfInBounds_toArray, List.set_cons_zero, List.set_cons_succ]
          refine wpAnyH_take (i := 10) (v := undef) rfl (by kernel_rfl) (by kernel_rfl) (by kernel_rfl) (fun _ _ _ h => h) (Or.inr ⟨rfl, rfl⟩) (by assumption) ?_
          try simp only [Act.put, List.getElem_toArray, List.getElem_cons_succ, List.getElem_cons_zero, List.setIfInBounds_toArray, List.set_cons_zero, List.set_cons_succ]
          refine wpAnyH_take (i := 11) (v := undef) rfl (by kernel_rfl) (by kernel_rfl) (by kernel_rfl) (fun _ _ _ h => h) (Or.inr ⟨rfl, rfl⟩) (by assumption) ?_
          try simp only [Act.put, List.getElem_toArray, List.getElem_cons_succ, List.getElem_cons_zero, List.setIfInBounds_toArray, List.set_cons_zero, List.set_cons_succ]
          refine wpAnyH_take (i := 12) (v := undef) rfl (by kernel_rfl) (by kernel_rfl) (by kernel_rfl) (fun _ _ _ h => h) (Or.inr ⟨rfl, rfl⟩) (by assumption) ?_
          try simp only [Act.put, List.getElem_toArray, List.getElem_cons_succ, List.getElem_cons_zero, List.setIfInBounds_toArray, List.set_cons_zero, List.set_cons_succ]
          refine wpAnyH_take (i := 13) (v := undef) rfl (by kernel_rfl) (by kernel_rfl) (by kernel_rfl) (fun _ _ _ h => h) (Or.inr ⟨rfl, rfl⟩) (by assumption) ?_
          try simp only [Act.put, List.getElem_toArray, List.getElem_cons_succ, List.getElem_cons_zero, List.setIfInBounds_toArray, List.set_cons_zero, List.set_cons_succ]
          refine wpAnyH_take (i := 14) (v := undef) rfl (by kernel_rfl) (by kernel_rfl) (by kernel_rfl) (fun _ _ _ h => h) (Or.inr ⟨rfl, rfl⟩) (by assumption) ?_
          try simp only [Act.put, List.getElem_toArray, List.getElem_cons_succ, List.getElem_cons_zero, List.setIfInBounds_toArray, List.set_cons_zero, List.set_cons_succ]
          refine wpAnyH_take (i := 15) (v := undef) rfl (by kernel_rfl) (by kernel_rfl) (by kernel_rfl) (fun _ _ _ h => h) (Or.inr ⟨rfl, rfl⟩) (by assumption) ?_
          try simp only [Act.put, List.getElem_toArray, List.getElem_cons_succ, List.getElem_cons_zero, List.setIfInBounds_toArray, List.set_cons_zero, List.set_cons_succ]
          refine' wpAnyH_take (i := 16) (v := _) rfl (by kernel_rfl) (by kernel_rfl) (by kernel_rfl) (fun _ _ _ h => h) (Or.inl ⟨by rfl, ?hyq0x16⟩) (by assumption) ?restq0x16
          case hyq0x16 =>
            intro v hSw
            try dsimp only at hSw
            go_simp
            try with_reducible rfl
          try simp only [Act.put, List.getElem_toArray, List.getElem_cons_succ, List.getElem_cons_zero, List.setIfInBounds_toArray, List.set_cons_zero, List.set_cons_succ]
          refine wpAnyH_done (by kernel_rfl) ?_ _
          refine NoPanic.normal ?_
          go_wp2_with (first | (go_at_call 6; refine (AWA.out _ HB.out).mono ?_; intro e v9 hh; obtain ⟨rfl, hb⟩ := hh; replace HB := Aside0.mk (HB.out.trans (hb.mono HB.out.size)); clear hb))
          go_ret
          exact ⟨rfl, HB.out⟩
        · have b0 : (n.f0 != 0) = true := by simp [hz]
          rw [← HINN.out hz]
          have hq : ((⟨(innerP n).toArray⟩ : ByteArray).toList != (⟨(innerP n).toArray⟩ : ByteArray).toList) = false := by simp
          clear hz HINN
          go_wp2_with (first | (go_at_call 10; refine (INN.out _ HB.out).mono ?_; intro e v4 hh; obtain ⟨rfl, hb⟩ := hh; replace HB := Aside0.mk (HB.out.trans (hb.mono HB.out.size)); replace K1 := Aside0.mk (blk_below K1.out hb); replace K2 := Aside0.mk (blk_below K2.out hb); clear hb; clear x0 x1 x2 x3 y0 y1 y2 y3; have x0 : v4.cell? ⟨w.heap.size, 0, none⟩ = some (Value.int .i64 n.f0) := blk_cell K1.out 0; have x1 : v4.cell? ⟨w.heap.size, 1, none⟩ = some (Value.slice A1 n.f1.length c1) := blk_cell K1.out 1; have x2 : v4.cell? ⟨w.heap.size, 2, none⟩ = some (Value.string n.f2) := blk_cell K1.out 2; have x3 : v4.cell? ⟨w.heap.size, 3, none⟩ = some (Value.slice A3 n.f3.length c3) := blk_cell K1.out 3; have y0 : v4.cell? ⟨w.heap.size + 1, 0, none⟩ = some (Value.int .i64 m.f0) := blk_cell K2.out 0; have y1 : v4.cell? ⟨w.heap.size + 1, 1, none⟩ = some (Value.slice B1 m.f1.length d1) := blk_cell K2.out 1; have y2 : v4.cell? ⟨w.heap.size + 1, 2, none⟩ = some (Value.string m.f2) := blk_cell K2.out 2; have y3 : v4.cell? ⟨w.heap.size + 1, 3, none⟩ = some (Value.slice B3 m.f3.length d3) := blk_cell K2.out 3))
          refine wp_region_noPanic ?_
          refine wp_region_held_drew (S := (fun v => Below w.heap.size w v ∧ v.cell? ⟨w.heap.size, 0, none⟩ = some (Value.int .i64 n.f0) ∧ v.cell? ⟨w.heap.size, 1, none⟩ = some (Value.slice A1 n.f1.length c1) ∧ v.cell? ⟨w.heap.size, 2, none⟩ = some (Value.string n.f2) ∧ v.cell? ⟨w.heap.size, 3, none⟩ = some (Value.slice A3 n.f3.length c3) ∧ v.cell? ⟨w.heap.size + 1, 0, none⟩ = some (Value.int .i64 m.f0) ∧ v.cell? ⟨w.heap.size + 1, 1, none⟩ = some (Value.slice B1 m.f1.length d1) ∧ v.cell? ⟨w.heap.size + 1, 2, none⟩ = some (Value.string m.f2) ∧ v.cell? ⟨w.heap.size + 1, 3, none⟩ = some (Value.slice B3 m.f3.length d3))) (by kernel_rfl) ⟨HB.out.drew, x0, x1, x2, x3, y0, y1, y2, y3⟩ (fun hHeld => ?_)
          refine' wpAnyH_take (i := 0) (v := _) rfl (by kernel_rfl) (by kernel_rfl) (by kernel_rfl) (fun _ _ _ h => h) (Or.inl ⟨by rfl, ?hyq1x0⟩) (by assumption) ?restq1x0
          case hyq1x0 =>
            intro v hSw
            try dsimp only at hSw
            go_simp
            try with_reducible rfl
          try simp only [Act.put, List.getElem_toArray, List.getElem_cons_succ, List.getElem_cons_zero, List.setIfInBounds_toArray, List.set_cons_zero, List.set_cons_succ]
          refine wpAnyH_ready (rs := [1]) (by kernel_rfl) (by simp) ?_
          refine AllReadyH.cons rfl (fun K hK => ?_) AllReadyH.nil
          go_simp
          go_at_call 12
          replace HB := Aside0.mk HB.out.drew
          replace K1 := Aside0.mk (blk_drew K1.out)
          replace K2 := Aside0.mk (blk_drew K2.out)
          refine (NON.out _ HB.out).mono ?_
          intro e v5 hh
          obtain ⟨rfl, hb⟩ := hh
          clear NON
          replace HB := Aside0.mk (HB.out.trans (hb.mono HB.out.size))
          replace K1 := Aside0.mk (blk_below K1.out hb)
          replace K2 := Aside0.mk (blk_below K2.out hb)
          clear hb
          clear x0 x1 x2 x3 y0 y1 y2 y3
          have x0 : v5.cell? ⟨w.heap.size, 0, none⟩ = some (Value.int .i64 n.f0) := blk_cell K1.out 0
          have x1 : v5.cell? ⟨w.heap.size, 1, none⟩ = some (Value.slice A1 n.f1.length c1) := blk_cell K1.out 1
          have x2 : v5.cell? ⟨w.heap.size, 2, none⟩ = some (Value.string n.f2) := blk_cell K1.out 2
          have x3 : v5.cell? ⟨w.heap.size, 3, none⟩ = some (Value.slice A3 n.f3.length c3) := blk_cell K1.out 3
          have y0 : v5.cell? ⟨w.heap.size + 1, 0, none⟩ = some (Value.int .i64 m.f0) := blk_cell K2.out 0
          have y1 : v5.cell? ⟨w.heap.size + 1, 1, none⟩ = some (Value.slice B1 m.f1.length d1) := blk_cell K2.out 1
          have y2 : v5.cell? ⟨w.heap.size + 1, 2, none⟩ = some (Value.string m.f2) := blk_cell K2.out 2
          have y3 : v5.cell? ⟨w.heap.size + 1, 3, none⟩ = some (Value.slice B3 m.f3.length d3) := blk_cell K2.out 3
          go_wp2_with fail
          refine hK.out _ _ ⟨HB.out, x0, x1, x2, x3, y0, y1, y2, y3⟩ (fun hHeld => ?_)
          clear hK K
          try simp only [Act.put, List.getElem_toArray, List.getElem_cons_succ, List.getElem_cons_zero, List.setIfInBounds_toArray, List.set_cons_zero, List.set_cons_succ]
          refine' wpAnyH_take (i := 2) (v := _) rfl (by kernel_rfl) (by kernel_rfl) (by kernel_rfl) (fun _ _ _ h => h) (Or.inl ⟨by rfl, ?hyq1x2⟩) (by assumption) ?restq1x2
          case hyq1x2 =>
            intro v hSw
            try dsimp only at hSw
            go_simp
            try with_reducible rfl
          try simp only [Act.put, List.getElem_toArray, List.getElem_cons_succ, List.getElem_cons_zero, List.setIfInBounds_toArray, List.set_cons_zero, List.set_cons_succ]
          refine wpAnyH_take (i := 3) (v := undef) rfl (by kernel_rfl) (by kernel_rfl) (by kernel_rfl) (fun _ _ _ h => h) (Or.inr ⟨rfl, rfl⟩) (by assumption) ?_
          try simp only [Act.put, List.getElem_toArray, List.getElem_cons_succ, List.getElem_cons_zero, List.setIfInBounds_toArray, List.set_cons_zero, List.set_cons_succ]
          refine wpAnyH_take (i := 4) (v := undef) rfl (by kernel_rfl) (by kernel_rfl) (by kernel_rfl) (fun _ _ _ h => h) (Or.inr ⟨rfl, rfl⟩) (by assumption) ?_
          try simp only [Act.put, List.getElem_toArray, List.getElem_cons_succ, List.getElem_cons_zero, List.setIfInBounds_toArray, List.set_cons_zero, List.set_cons_succ]
          refine' wpAnyH_take (i := 5) (v := _) rfl (by kernel_rfl) (by kernel_rfl) (by kernel_rfl) (fun _ _ _ h => h) (Or.inl ⟨by rfl, ?hyq1x5⟩) (by assumption) ?restq1x5
          case hyq1x5 =>
            intro v hSw
            try dsimp only at hSw
            go_simp
            try with_reducible rfl
          try simp only [Act.put, List.getElem_toArray, List.getElem_cons_succ, List.getElem_cons_zero, List.setIfInBounds_toArray, List.set_cons_zero, List.set_cons_succ]
          refine' wpAnyH_take (i := 6) (v := _) rfl (by kernel_rfl) (by kernel_rfl) (by kernel_rfl) (fun _ _ _ h => h) (Or.inl ⟨by rfl, ?hyq1x6⟩) (by assumption) ?restq1x6
          case hyq1x6 =>
            intro v hSw
            try dsimp only at hSw
            go_simp
            try with_reducible rfl
          try simp only [Act.put, List.getElem_toArray, List.getElem_cons_succ, List.getElem_cons_zero, List.setIfInBounds_toArray, List.set_cons_zero, List.set_cons_succ]
          refine wpAnyH_take (i := 7) (v := undef) rfl (by kernel_rfl) (by kernel_rfl) (by kernel_rfl) (fun _ _ _ h => h) (Or.inr ⟨rfl, rfl⟩) (by assumption) ?_
          try simp only [Act.put, List.getElem_toArray, List.getElem_cons_succ, List.getElem_cons_zero, List.setIfInBounds_toArray, List.set_cons_zero, List.set_cons_succ]
          refine wpAnyH_take (i := 8) (v := undef) rfl (by kernel_rfl) (by kernel_rfl) (by kernel_rfl) (fun _ _ _ h => h) (Or.inr ⟨rfl, rfl⟩) (by assumption) ?_
          try simp only [Act.put, List.getElem_toArray, List.getElem_cons_succ, List.getElem_cons_zero, List.setIfInBounds_toArray, List.set_cons_zero, List.set_cons_succ]
          refine wpAnyH_take (i := 9) (v := undef) rfl (by kernel_rfl) (by kernel_rfl) (by kernel_rfl) (fun _ _ _ h => h) (Or.inr ⟨rfl, rfl⟩) (by assumption) ?_
          try simp only [Act.put, List.getElem_toArray, List.getElem_cons_succ, List.getElem_cons_zero, List.setIfInBounds_toArray, List.set_cons_zero, List.set_cons_succ]
          refine wpAnyH_take (i := 10) (v := undef) rfl (by kernel_rfl) (by kernel_rfl) (by kernel_rfl) (fun _ _ _ h => h) (Or.inr ⟨rfl, rfl⟩) (by assumption) ?_
          try simp only [Act.put, List.getElem_toArray, List.getElem_cons_succ, List.getElem_cons_zero, List.setIfInBounds_toArray, List.set_cons_zero, List.set_cons_succ]
          refine wpAnyH_take (i := 11) (v := undef) rfl (by kernel_rfl) (by kernel_rfl) (by kernel_rfl) (fun _ _ _ h => h) (Or.inr ⟨rfl, rfl⟩) (by assumption) ?_
          try simp only [Act.put, List.getElem_toArray, List.getElem_cons_succ, List.getElem_cons_zero, List.setIfInBounds_toArray, List.set_cons_zero, List.set_cons_succ]
          refine wpAnyH_take (i := 12) (v := undef) rfl (by kernel_rfl) (by kernel_rfl) (by kernel_rfl) (fun _ _ _ h => h) (Or.inr ⟨rfl, rfl⟩) (by assumption) ?_
          try simp only [Act.put, List.getElem_toArray, List.getElem_cons_succ, List.getElem_cons_zero, List.setIfInBounds_toArray, List.set_cons_zero, List.set_cons_succ]
          refine wpAnyH_take (i := 13) (v := undef) rfl (by kernel_rfl) (by kernel_rfl) (by kernel_rfl) (fun _ _ _ h => h) (Or.inr ⟨rfl, rfl⟩) (by assumption) ?_
          try simp only [Act.put, List.getElem_toArray, List.getElem_cons_succ, List.getElem_cons_zero, List.setIfInBounds_toArray, List.set_cons_zero, List.set_cons_succ]
          refine wpAnyH_take (i := 14) (v := undef) rfl (by kernel_rfl) (by kernel_rfl) (by kernel_rfl) (fun _ _ _ h => h) (Or.inr ⟨rfl, rfl⟩) (by assumption) ?_
          try simp only [Act.put, List.getElem_toArray, List.getElem_cons_succ, List.getElem_cons_zero, List.setIfInBounds_toArray, List.set_cons_zero, List.set_cons_succ]
          refine wpAnyH_take (i := 15) (v := undef) rfl (by kernel_rfl) (by kernel_rfl) (by kernel_rfl) (fun _ _ _ h => h) (Or.inr ⟨rfl, rfl⟩) (by assumption) ?_
          try simp only [Act.put, List.getElem_toArray, List.getElem_cons_succ, List.getElem_cons_zero, List.setIfInBounds_toArray, List.set_cons_zero, List.set_cons_succ]
          refine' wpAnyH_take (i := 16) (v := _) rfl (by kernel_rfl) (by kernel_rfl) (by kernel_rfl) (fun _ _ _ h => h) (Or.inl ⟨by rfl, ?hyq1x16⟩) (by assumption) ?restq1x16
          case hyq1x16 =>
            intro v hSw
            try dsimp only at hSw
            go_simp
            try with_reducible rfl
          try simp only [Act.put, List.getElem_toArray, List.getElem_cons_succ, List.getElem_cons_zero, List.setIfInBounds_toArray, List.set_cons_zero, List.set_cons_succ]
          refine wpAnyH_done (by kernel_rfl) ?_ _
          refine NoPanic.normal ?_
          go_wp2_with (first | (go_at_call 6; refine (AWA.out _ HB.out).mono ?_; intro e v9 hh; obtain ⟨rfl, hb⟩ := hh; replace HB := Aside0.mk (HB.out.trans (hb.mono HB.out.size)); clear hb))
          go_ret
          exact ⟨rfl, HB.out⟩
  cases nm : normalP m
  · rw [nn] at NON
    rw [nm] at NOM
    clear nn nm hlaw
    go_enter Tryd.func4, Tryd.ntmps4
    go_wp2_with (first | (go_at_call 5; refine (HEN.out _ HB.out).mono ?_; intro e v2 hh; obtain ⟨rfl, hb⟩ := hh; clear HEN; replace HB := Aside0.mk (HB.out.trans (hb.mono HB.out.size)); replace K1 := Aside0.mk (blk_below K1.out hb); replace K2 := Aside0.mk (blk_below K2.out hb); clear hb; have x0 : v2.cell? ⟨w.heap.size, 0, none⟩ = some (Value.int .i64 n.f0) := blk_cell K1.out 0; have x1 : v2.cell? ⟨w.heap.size, 1, none⟩ = some (Value.slice A1 n.f1.length c1) := blk_cell K1.out 1; have x2 : v2.cell? ⟨w.heap.size, 2, none⟩ = some (Value.string n.f2) := blk_cell K1.out 2; have x3 : v2.cell? ⟨w.heap.size, 3, none⟩ = some (Value.slice A3 n.f3.length c3) := blk_cell K1.out 3; have y0 : v2.cell? ⟨w.heap.size + 1, 0, none⟩ = some (Value.int .i64 m.f0) := blk_cell K2.out 0; have y1 : v2.cell? ⟨w.heap.size + 1, 1, none⟩ = some (Value.slice B1 m.f1.length d1) := blk_cell K2.out 1; have y2 : v2.cell? ⟨w.heap.size + 1, 2, none⟩ = some (Value.string m.f2) := blk_cell K2.out 2; have y3 : v2.cell? ⟨w.heap.size + 1, 3, none⟩ = some (Value.slice B3 m.f3.length d3) := blk_cell K2.out 3) | (go_at_call 5; refine (HEM.out _ HB.out).mono ?_; intro e v3 hh; obtain ⟨rfl, hb⟩ := hh; replace HB := Aside0.mk (HB.out.trans (hb.mono HB.out.size)); replace K1 := Aside0.mk (blk_below K1.out hb); replace K2 := Aside0.mk (blk_below K2.out hb); clear hb; clear x0 x1 x2 x3 y0 y1 y2 y3; have x0 : v3.cell? ⟨w.heap.size, 0, none⟩ = some (Value.int .i64 n.f0) := blk_cell K1.out 0; have x1 : v3.cell? ⟨w.heap.size, 1, none⟩ = some (Value.slice A1 n.f1.length c1) := blk_cell K1.out 1; have x2 : v3.cell? ⟨w.heap.size, 2, none⟩ = some (Value.string n.f2) := blk_cell K1.out 2; have x3 : v3.cell? ⟨w.heap.size, 3, none⟩ = some (Value.slice A3 n.f3.length c3) := blk_cell K1.out 3; have y0 : v3.cell? ⟨w.heap.size + 1, 0, none⟩ = some (Value.int .i64 m.f0) := blk_cell K2.out 0; have y1 : v3.cell? ⟨w.heap.size + 1, 1, none⟩ = some (Value.slice B1 m.f1.length d1) := blk_cell K2.out 1; have y2 : v3.cell? ⟨w.heap.size + 1, 2, none⟩ = some (Value.string m.f2) := blk_cell K2.out 2; have y3 : v3.cell? ⟨w.heap.size + 1, 3, none⟩ = some (Value.slice B3 m.f3.length d3) := blk_cell K2.out 3))
    go_loopw [5, 6] (fun v5 v6 wr => ∃ (i : Nat), v6 = .int .i64 i ∧ v5 = .string ⟨(kidsP (n.f3.take i)).toArray⟩ ∧ i ≤ n.f3.length ∧ Aside0 (Below w.heap.size w wr) ∧ Aside0 (wr.heap[w.heap.size]? = some (.cells #[.int .i64 n.f0, .slice A1 n.f1.length c1, .string n.f2, .slice A3 n.f3.length c3] 25 (0, 0))) ∧ Aside0 (wr.heap[w.heap.size + 1]? = some (.cells #[.int .i64 m.f0, .slice B1 m.f1.length d1, .string m.f2, .slice B3 m.f3.length d3] 25 (0, 0)))) (fun v5 v6 _ => n.f3.length - (intOf v6).toNat)
    case atStart => exact ⟨0, rfl, rfl, Nat.zero_le _, HB, K1, K2⟩
    case round =>
      clear HB K1 K2 x0 x1 x2 x3 y0 y1 y2 y3
      obtain ⟨i, rfl, rfl, hi, HB, K1, K2⟩ := hrel
      have x0 : wr.cell? ⟨w.heap.size, 0, none⟩ = some (Value.int .i64 n.f0) := blk_cell K1.out 0; have x1 : wr.cell? ⟨w.heap.size, 1, none⟩ = some (Value.slice A1 n.f1.length c1) := blk_cell K1.out 1; have x2 : wr.cell? ⟨w.heap.size, 2, none⟩ = some (Value.string n.f2) := blk_cell K1.out 2; have x3 : wr.cell? ⟨w.heap.size, 3, none⟩ = some (Value.slice A3 n.f3.length c3) := blk_cell K1.out 3; have y0 : wr.cell? ⟨w.heap.size + 1, 0, none⟩ = some (Value.int .i64 m.f0) := blk_cell K2.out 0; have y1 : wr.cell? ⟨w.heap.size + 1, 1, none⟩ = some (Value.slice B1 m.f1.length d1) := blk_cell K2.out 1; have y2 : wr.cell? ⟨w.heap.size + 1, 2, none⟩ = some (Value.string m.f2) := blk_cell K2.out 2; have y3 : wr.cell? ⟨w.heap.size + 1, 3, none⟩ = some (Value.slice B3 m.f3.length d3) := blk_cell K2.out 3
      by_cases hlt : i < n.f3.length
      · have q1 : (0 : Int) ≤ (i : Int) := by omega
        have q2 : (i : Int) < (n.f3.length : Int) := by omega
        obtain ⟨ad, E1, f1, E3, f3, eA, hx0, hx1, hx2, hx3, m1, g1, m3, g3⟩ := at_T25 H3.out (i : Int) q1 q2
        have hrd : rd_T25 n.f3 (i : Int) = n.f3[i] := by simp [rd_T25, List.getD_eq_getElem?_getD, List.getElem?_eq_getElem hlt]
        rw [hrd] at hx0 hx1 hx2 hx3 m1 g1 m3 g3
        have HTK := Aside0.mk (kidsP_take n.f3 i hlt)
        have HTL := Aside0.mk (kidsP_take_le n.f3 (i + 1))
        generalize n.f3[i] = k2 at *
        clear hrd
        simp only [Int.toNat_natCast] at hx0 hx1 hx2 hx3
        subst eA
        replace hx0 := (HB.out.cell (World.block_lt_of_cell? w _ hx0)).trans hx0
        replace hx1 := (HB.out.cell (World.block_lt_of_cell? w _ hx1)).trans hx1
        replace hx2 := (HB.out.cell (World.block_lt_of_cell? w _ hx2)).trans hx2
        replace hx3 := (HB.out.cell (World.block_lt_of_cell? w _ hx3)).trans hx3
        have HLB := Aside0.mk (show (kidsP (n.f3.take i)).length + (nodeP k2).length ≤ 70368744177664 by have h1 := HTL.out; have h2 := HKN.out; rw [HTK.out, List.length_append] at h1; omega)
        have OUT := Aside0.mk (print_Outer.calls k2.f0 E1 f1 k2.f1 k2.f2 E3 f3 k2.f3 ⟨(nodeP k2).toArray⟩ wr (Kd.C_below g1 HB.out) m1 (Kd.C_below g3 HB.out) m3 (outer_f k2 (by have := HLB.out; omega)))
        have hadd : ∀ v : World, (Op.stringOp .add ⟨(kidsP (n.f3.take i)).toArray⟩ ⟨(nodeP k2).toArray⟩).run Tryd.prog v = .ok (.string (⟨(kidsP (n.f3.take i)).toArray⟩ ++ ⟨(nodeP k2).toArray⟩)) v := fun v => run_string_add_sum v _ _ (by rw [ba_size, ba_size]; have := HLB.out; omega)
        clear m1 g1 m3 g3
        go_wp2_with fail
        refine OUT.out.mono ?_
        intro e v4 hh
        obtain ⟨rfl, hb⟩ := hh
        clear x0 x1 x2 x3 y0 y1 y2 y3; replace HB := Aside0.mk (HB.out.trans (hb.mono HB.out.size)); replace K1 := Aside0.mk (blk_below K1.out hb); replace K2 := Aside0.mk (blk_below K2.out hb); clear hb
        go_wp2
        go_roundw
        case rel => exact ⟨i + 1, by go_num, by rw [HTK.out, ba_append], by omega, HB, K1, K2⟩
        case measure => simp [intOf]; omega
      · obtain rfl : i = n.f3.length := by omega
        rw [List.take_length]
        by_cases hz : n.f0 = 0
        · have b0 : (n.f0 != 0) = false := by simp [hz]
          clear hz HINN
          go_wp2
          refine wp_region_noPanic ?_
          refine wp_region_held_drew (S := (fun v => Below w.heap.size w v ∧ v.cell? ⟨w.heap.size, 0, none⟩ = some (Value.int .i64 n.f0) ∧ v.cell? ⟨w.heap.size, 1, none⟩ = some (Value.slice A1 n.f1.length c1) ∧ v.cell? ⟨w.heap.size, 2, none⟩ = some (Value.string n.f2) ∧ v.cell? ⟨w.heap.size, 3, none⟩ = some (Value.slice A3 n.f3.length c3) ∧ v.cell? ⟨w.heap.size + 1, 0, none⟩ = some (Value.int .i64 m.f0) ∧ v.cell? ⟨w.heap.size + 1, 1, none⟩ = some (Value.slice B1 m.f1.length d1) ∧ v.cell? ⟨w.heap.size + 1, 2, none⟩ = some (Value.string m.f2) ∧ v.cell? ⟨w.heap.size + 1, 3, none⟩ = some (Value.slice B3 m.f3.length d3))) (by kernel_rfl) ⟨HB.out.drew, x0, x1, x2, x3, y0, y1, y2, y3⟩ (fun hHeld => ?_)
          refine' wpAnyH_take (i := 0) (v := _) rfl (by kernel_rfl) (by kernel_rfl) (by kernel_rfl) (fun _ _ _ h => h) (Or.inl ⟨by rfl, ?hyq2x0⟩) (by assumption) ?restq2x0
          case hyq2x0 =>
            intro v hSw
            try dsimp only at hSw
            go_simp
            try with_reducible rfl
          try simp only [Act.put, List.getElem_toArray, List.getElem_cons_succ, List.getElem_cons_zero, List.setIfInBounds_toArray, List.set_cons_zero, List.set_cons_succ]
          refine wpAnyH_ready (rs := [1]) (by kernel_rfl) (by simp) ?_
          refine AllReadyH.cons rfl (fun K hK => ?_) AllReadyH.nil
          go_simp
          go_at_call 12
          replace HB := Aside0.mk HB.out.drew
          replace K1 := Aside0.mk (blk_drew K1.out)
          replace K2 := Aside0.mk (blk_drew K2.out)
          refine (NON.out _ HB.out).mono ?_
          intro e v5 hh
          obtain ⟨rfl, hb⟩ := hh
          clear NON
          replace HB := Aside0.mk (HB.out.trans (hb.mono HB.out.size))
          replace K1 := Aside0.mk (blk_below K1.out hb)
          replace K2 := Aside0.mk (blk_below K2.out hb)
          clear hb
          clear x0 x1 x2 x3 y0 y1 y2 y3
          have x0 : v5.cell? ⟨w.heap.size, 0, none⟩ = some (Value.int .i64 n.f0) := blk_cell K1.out 0
          have x1 : v5.cell? ⟨w.heap.size, 1, none⟩ = some (Value.slice A1 n.f1.length c1) := blk_cell K1.out 1
          have x2 : v5.cell? ⟨w.heap.size, 2, none⟩ = some (Value.string n.f2) := blk_cell K1.out 2
          have x3 : v5.cell? ⟨w.heap.size, 3, none⟩ = some (Value.slice A3 n.f3.length c3) := blk_cell K1.out 3
          have y0 : v5.cell? ⟨w.heap.size + 1, 0, none⟩ = some (Value.int .i64 m.f0) := blk_cell K2.out 0
          have y1 : v5.cell? ⟨w.heap.size + 1, 1, none⟩ = some (Value.slice B1 m.f1.length d1) := blk_cell K2.out 1
          have y2 : v5.cell? ⟨w.heap.size + 1, 2, none⟩ = some (Value.string m.f2) := blk_cell K2.out 2
          have y3 : v5.cell? ⟨w.heap.size + 1, 3, none⟩ = some (Value.slice B3 m.f3.length d3) := blk_cell K2.out 3
          go_wp2_with fail
          refine hK.out _ _ ⟨HB.out, x0, x1, x2, x3, y0, y1, y2, y3⟩ (fun hHeld => ?_)
          clear hK K
          try simp only [Act.put, List.getElem_toArray, List.getElem_cons_succ, List.getElem_cons_zero, List.setIfInBounds_toArray, List.set_cons_zero, List.set_cons_succ]
          refine' wpAnyH_take (i := 2) (v := _) rfl (by kernel_rfl) (by kernel_rfl) (by kernel_rfl) (fun _ _ _ h => h) (Or.inl ⟨by rfl, ?hyq2x2⟩) (by assumption) ?restq2x2
          case hyq2x2 =>
            intro v hSw
            try dsimp only at hSw
            go_simp
            try with_reducible rfl
          try simp only [Act.put, List.getElem_toArray, List.getElem_cons_succ, List.getElem_cons_zero, List.setIfInBounds_toArray, List.set_cons_zero, List.set_cons_succ]
          refine' wpAnyH_take (i := 3) (v := _) rfl (by kernel_rfl) (by kernel_rfl) (by kernel_rfl) (fun _ _ _ h => h) (Or.inl ⟨by rfl, ?hyq2x3⟩) (by assumption) ?restq2x3
          case hyq2x3 =>
            intro v hSw
            try dsimp only at hSw
            go_simp
            try with_reducible rfl
          try simp only [Act.put, List.getElem_toArray, List.getElem_cons_succ, List.getElem_cons_zero, List.setIfInBounds_toArray, List.set_cons_zero, List.set_cons_succ]
          refine wpAnyH_ready (rs := [4]) (by kernel_rfl) (by simp) ?_
          refine AllReadyH.cons rfl (fun K hK => ?_) AllReadyH.nil
          go_simp
          go_at_call 12
          refine (NOM.out _ HB.out).mono ?_
          intro e v6 hh
          obtain ⟨rfl, hb⟩ := hh
          clear NOM
          replace HB := Aside0.mk (HB.out.trans (hb.mono HB.out.size))
          replace K1 := Aside0.mk (blk_below K1.out hb)
          replace K2 := Aside0.mk (blk_below K2.out hb)
          clear hb
          clear x0 x1 x2 x3 y0 y1 y2 y3
          have x0 : v6.cell? ⟨w.heap.size, 0, none⟩ = some (Value.int .i64 n.f0) := blk_cell K1.out 0
          have x1 : v6.cell? ⟨w.heap.size, 1, none⟩ = some (Value.slice A1 n.f1.length c1) := blk_cell K1.out 1
          have x2 : v6.cell? ⟨w.heap.size, 2, none⟩ = some (Value.string n.f2) := blk_cell K1.out 2
          have x3 : v6.cell? ⟨w.heap.size, 3, none⟩ = some (Value.slice A3 n.f3.length c3) := blk_cell K1.out 3
          have y0 : v6.cell? ⟨w.heap.size + 1, 0, none⟩ = some (Value.int .i64 m.f0) := blk_cell K2.out 0
          have y1 : v6.cell? ⟨w.heap.size + 1, 1, none⟩ = some (Value.slice B1 m.f1.length d1) := blk_cell K2.out 1
          have y2 : v6.cell? ⟨w.heap.size + 1, 2, none⟩ = some (Value.string m.f2) := blk_cell K2.out 2
          have y3 : v6.cell? ⟨w.heap.size + 1, 3, none⟩ = some (Value.slice B3 m.f3.length d3) := blk_cell K2.out 3
          go_wp2_with fail
          refine hK.out _ _ ⟨HB.out, x0, x1, x2, x3, y0, y1, y2, y3⟩ (fun hHeld => ?_)
          clear hK K
          try simp only [Act.put, List.getElem_toArray, List.getElem_cons_succ, List.getElem_cons_zero, List.setIfInBounds_toArray, List.set_cons_zero, List.set_cons_succ]
          refine' wpAnyH_take (i := 5) (v := _) rfl (by kernel_rfl) (by kernel_rfl) (by kernel_rfl) (fun _ _ _ h => h) (Or.inl ⟨by rfl, ?hyq2x5⟩) (by assumption) ?restq2x5
          case hyq2x5 =>
            intro v hSw
            try dsimp only at hSw
            go_simp
            try with_reducible rfl
          try simp only [Act.put, List.getElem_toArray, List.getElem_cons_succ, List.getElem_cons_zero, List.setIfInBounds_toArray, List.set_cons_zero, List.set_cons_succ]
          refine' wpAnyH_take (i := 6) (v := _) rfl (by kernel_rfl) (by kernel_rfl) (by kernel_rfl) (fun _ _ _ h => h) (Or.inl ⟨by rfl, ?hyq2x6⟩) (by assumption) ?restq2x6
          case hyq2x6 =>
            intro v hSw
            try dsimp only at hSw
            go_simp
            try with_reducible rfl
          try simp only [Act.put, List.getElem_toArray, List.getElem_cons_succ, List.getElem_cons_zero, List.setIfInBounds_toArray, List.set_cons_zero, List.set_cons_succ]
          refine wpAnyH_take (i := 7) (v := undef) rfl (by kernel_rfl) (by kernel_rfl) (by kernel_rfl) (fun _ _ _ h => h) (Or.inr ⟨rfl, rfl⟩) (by assumption) ?_
          try simp only [Act.put, List.getElem_toArray, List.getElem_cons_succ, List.getElem_cons_zero, List.setIfInBounds_toArray, List.set_cons_zero, List.set_cons_succ]
          refine wpAnyH_take (i := 8) (v := undef) rfl (by kernel_rfl) (by kernel_rfl) (by kernel_rfl) (fun _ _ _ h => h) (Or.inr ⟨rfl, rfl⟩) (by assumption) ?_
          try simp only [Act.put, List.getElem_toArray, List.getElem_cons_succ, List.getElem_cons_zero, List.setIfInBounds_toArray, List.set_cons_zero, List.set_cons_succ]
          refine wpAnyH_take (i := 9) (v := undef) rfl (by kernel_rfl) (by kernel_rfl) (by kernel_rfl) (fun _ _ _ h => h) (Or.inr ⟨rfl, rfl⟩) (by assumption) ?_
          try simp only [Act.put, List.getElem_toArray, List.getElem_cons_succ, List.getElem_cons_zero, List.setIfInBounds_toArray, List.set_cons_zero, List.set_cons_succ]
          refine wpAnyH_take (i := 10) (v := undef) rfl (by kernel_rfl) (by kernel_rfl) (by kernel_rfl) (fun _ _ _ h => h) (Or.inr ⟨rfl, rfl⟩) (by assumption) ?_
          try simp only [Act.put, List.getElem_toArray, List.getElem_cons_succ, List.getElem_cons_zero, List.setIfInBounds_toArray, List.set_cons_zero, List.set_cons_succ]
          refine wpAnyH_take (i := 11) (v := undef) rfl (by kernel_rfl) (by kernel_rfl) (by kernel_rfl) (fun _ _ _ h => h) (Or.inr ⟨rfl, rfl⟩) (by assumption) ?_
          try simp only [Act.put, List.getElem_toArray, List.getElem_cons_succ, List.getElem_cons_zero, List.setIfInBounds_toArray, List.set_cons_zero, List.set_cons_succ]
          refine wpAnyH_take (i := 12) (v := undef) rfl (by kernel_rfl) (by kernel_rfl) (by kernel_rfl) (fun _ _ _ h => h) (Or.inr ⟨rfl, rfl⟩) (by assumption) ?_
          try simp only [Act.put, List.getElem_toArray, List.getElem_cons_succ, List.getElem_cons_zero, List.setIfInBounds_toArray, List.set_cons_zero, List.set_cons_succ]
          refine wpAnyH_take (i := 13) (v := undef) rfl (by kernel_rfl) (by kernel_rfl) (by kernel_rfl) (fun _ _ _ h => h) (Or.inr ⟨rfl, rfl⟩) (by assumption) ?_
          try simp only [Act.put, List.getElem_toArray, List.getElem_cons_succ, List.getElem_cons_zero, List.setIfInBounds_toArray, List.set_cons_zero, List.set_cons_succ]
          refine wpAnyH_take (i := 14) (v := undef) rfl (by kernel_rfl) (by kernel_rfl) (by kernel_rfl) (fun _ _ _ h => h) (Or.inr ⟨rfl, rfl⟩) (by assumption) ?_
          try simp only [Act.put, List.getElem_toArray, List.getElem_cons_succ, List.getElem_cons_zero, List.setIfInBounds_toArray, List.set_cons_zero, List.set_cons_succ]
          refine wpAnyH_take (i := 15) (v := undef) rfl (by kernel_rfl) (by kernel_rfl) (by kernel_rfl) (fun _ _ _ h => h) (Or.inr ⟨rfl, rfl⟩) (by assumption) ?_
          try simp only [Act.put, List.getElem_toArray, List.getElem_cons_succ, List.getElem_cons_zero, List.setIfInBounds_toArray, List.set_cons_zero, List.set_cons_succ]
          refine' wpAnyH_take (i := 16) (v := _) rfl (by kernel_rfl) (by kernel_rfl) (by kernel_rfl) (fun _ _ _ h => h) (Or.inl ⟨by rfl, ?hyq2x16⟩) (by assumption) ?restq2x16
          case hyq2x16 =>
            intro v hSw
            try dsimp only at hSw
            go_simp
            try with_reducible rfl
          try simp only [Act.put, List.getElem_toArray, List.getElem_cons_succ, List.getElem_cons_zero, List.setIfInBounds_toArray, List.set_cons_zero, List.set_cons_succ]
          refine wpAnyH_done (by kernel_rfl) ?_ _
          refine NoPanic.normal ?_
          go_wp2_with (first | (go_at_call 6; refine (AWA.out _ HB.out).mono ?_; intro e v9 hh; obtain ⟨rfl, hb⟩ := hh; replace HB := Aside0.mk (HB.out.trans (hb.mono HB.out.size)); clear hb))
          go_ret
          exact ⟨rfl, HB.out⟩
        · have b0 : (n.f0 != 0) = true := by simp [hz]
          rw [← HINN.out hz]
          have hq : ((⟨(innerP n).toArray⟩ : ByteArray).toList != (⟨(innerP n).toArray⟩ : ByteArray).toList) = false := by simp
          clear hz HINN
          go_wp2_with (first | (go_at_call 10; refine (INN.out _ HB.out).mono ?_; intro e v4 hh; obtain ⟨rfl, hb⟩ := hh; replace HB := Aside0.mk (HB.out.trans (hb.mono HB.out.size)); replace K1 := Aside0.mk (blk_below K1.out hb); replace K2 := Aside0.mk (blk_below K2.out hb); clear hb; clear x0 x1 x2 x3 y0 y1 y2 y3; have x0 : v4.cell? ⟨w.heap.size, 0, none⟩ = some (Value.int .i64 n.f0) := blk_cell K1.out 0; have x1 : v4.cell? ⟨w.heap.size, 1, none⟩ = some (Value.slice A1 n.f1.length c1) := blk_cell K1.out 1; have x2 : v4.cell? ⟨w.heap.size, 2, none⟩ = some (Value.string n.f2) := blk_cell K1.out 2; have x3 : v4.cell? ⟨w.heap.size, 3, none⟩ = some (Value.slice A3 n.f3.length c3) := blk_cell K1.out 3; have y0 : v4.cell? ⟨w.heap.size + 1, 0, none⟩ = some (Value.int .i64 m.f0) := blk_cell K2.out 0; have y1 : v4.cell? ⟨w.heap.size + 1, 1, none⟩ = some (Value.slice B1 m.f1.length d1) := blk_cell K2.out 1; have y2 : v4.cell? ⟨w.heap.size + 1, 2, none⟩ = some (Value.string m.f2) := blk_cell K2.out 2; have y3 : v4.cell? ⟨w.heap.size + 1, 3, none⟩ = some (Value.slice B3 m.f3.length d3) := blk_cell K2.out 3))
          refine wp_region_noPanic ?_
          refine wp_region_held_drew (S := (fun v => Below w.heap.size w v ∧ v.cell? ⟨w.heap.size, 0, none⟩ = some (Value.int .i64 n.f0) ∧ v.cell? ⟨w.heap.size, 1, none⟩ = some (Value.slice A1 n.f1.length c1) ∧ v.cell? ⟨w.heap.size, 2, none⟩ = some (Value.string n.f2) ∧ v.cell? ⟨w.heap.size, 3, none⟩ = some (Value.slice A3 n.f3.length c3) ∧ v.cell? ⟨w.heap.size + 1, 0, none⟩ = some (Value.int .i64 m.f0) ∧ v.cell? ⟨w.heap.size + 1, 1, none⟩ = some (Value.slice B1 m.f1.length d1) ∧ v.cell? ⟨w.heap.size + 1, 2, none⟩ = some (Value.string m.f2) ∧ v.cell? ⟨w.heap.size + 1, 3, none⟩ = some (Value.slice B3 m.f3.length d3))) (by kernel_rfl) ⟨HB.out.drew, x0, x1, x2, x3, y0, y1, y2, y3⟩ (fun hHeld => ?_)
          refine' wpAnyH_take (i := 0) (v := _) rfl (by kernel_rfl) (by kernel_rfl) (by kernel_rfl) (fun _ _ _ h => h) (Or.inl ⟨by rfl, ?hyq3x0⟩) (by assumption) ?restq3x0
          case hyq3x0 =>
            intro v hSw
            try dsimp only at hSw
            go_simp
            try with_reducible rfl
          try simp only [Act.put, List.getElem_toArray, List.getElem_cons_succ, List.getElem_cons_zero, List.setIfInBounds_toArray, List.set_cons_zero, List.set_cons_succ]
          refine wpAnyH_ready (rs := [1]) (by kernel_rfl) (by simp) ?_
          refine AllReadyH.cons rfl (fun K hK => ?_) AllReadyH.nil
          go_simp
          go_at_call 12
          replace HB := Aside0.mk HB.out.drew
          replace K1 := Aside0.mk (blk_drew K1.out)
          replace K2 := Aside0.mk (blk_drew K2.out)
          refine (NON.out _ HB.out).mono ?_
          intro e v5 hh
          obtain ⟨rfl, hb⟩ := hh
          clear NON
          replace HB := Aside0.mk (HB.out.trans (hb.mono HB.out.size))
          replace K1 := Aside0.mk (blk_below K1.out hb)
          replace K2 := Aside0.mk (blk_below K2.out hb)
          clear hb
          clear x0 x1 x2 x3 y0 y1 y2 y3
          have x0 : v5.cell? ⟨w.heap.size, 0, none⟩ = some (Value.int .i64 n.f0) := blk_cell K1.out 0
          have x1 : v5.cell? ⟨w.heap.size, 1, none⟩ = some (Value.slice A1 n.f1.length c1) := blk_cell K1.out 1
          have x2 : v5.cell? ⟨w.heap.size, 2, none⟩ = some (Value.string n.f2) := blk_cell K1.out 2
          have x3 : v5.cell? ⟨w.heap.size, 3, none⟩ = some (Value.slice A3 n.f3.length c3) := blk_cell K1.out 3
          have y0 : v5.cell? ⟨w.heap.size + 1, 0, none⟩ = some (Value.int .i64 m.f0) := blk_cell K2.out 0
          have y1 : v5.cell? ⟨w.heap.size + 1, 1, none⟩ = some (Value.slice B1 m.f1.length d1) := blk_cell K2.out 1
          have y2 : v5.cell? ⟨w.heap.size + 1, 2, none⟩ = some (Value.string m.f2) := blk_cell K2.out 2
          have y3 : v5.cell? ⟨w.heap.size + 1, 3, none⟩ = some (Value.slice B3 m.f3.length d3) := blk_cell K2.out 3
          go_wp2_with fail
          refine hK.out _ _ ⟨HB.out, x0, x1, x2, x3, y0, y1, y2, y3⟩ (fun hHeld => ?_)
          clear hK K
          try simp only [Act.put, List.getElem_toArray, List.getElem_cons_succ, List.getElem_cons_zero, List.setIfInBounds_toArray, List.set_cons_zero, List.set_cons_succ]
          refine' wpAnyH_take (i := 2) (v := _) rfl (by kernel_rfl) (by kernel_rfl) (by kernel_rfl) (fun _ _ _ h => h) (Or.inl ⟨by rfl, ?hyq3x2⟩) (by assumption) ?restq3x2
          case hyq3x2 =>
            intro v hSw
            try dsimp only at hSw
            go_simp
            try with_reducible rfl
          try simp only [Act.put, List.getElem_toArray, List.getElem_cons_succ, List.getElem_cons_zero, List.setIfInBounds_toArray, List.set_cons_zero, List.set_cons_succ]
          refine' wpAnyH_take (i := 3) (v := _) rfl (by kernel_rfl) (by kernel_rfl) (by kernel_rfl) (fun _ _ _ h => h) (Or.inl ⟨by rfl, ?hyq3x3⟩) (by assumption) ?restq3x3
          case hyq3x3 =>
            intro v hSw
            try dsimp only at hSw
            go_simp
            try with_reducible rfl
          try simp only [Act.put, List.getElem_toArray, List.getElem_cons_succ, List.getElem_cons_zero, List.setIfInBounds_toArray, List.set_cons_zero, List.set_cons_succ]
          refine wpAnyH_ready (rs := [4]) (by kernel_rfl) (by simp) ?_
          refine AllReadyH.cons rfl (fun K hK => ?_) AllReadyH.nil
          go_simp
          go_at_call 12
          refine (NOM.out _ HB.out).mono ?_
          intro e v6 hh
          obtain ⟨rfl, hb⟩ := hh
          clear NOM
          replace HB := Aside0.mk (HB.out.trans (hb.mono HB.out.size))
          replace K1 := Aside0.mk (blk_below K1.out hb)
          replace K2 := Aside0.mk (blk_below K2.out hb)
          clear hb
          clear x0 x1 x2 x3 y0 y1 y2 y3
          have x0 : v6.cell? ⟨w.heap.size, 0, none⟩ = some (Value.int .i64 n.f0) := blk_cell K1.out 0
          have x1 : v6.cell? ⟨w.heap.size, 1, none⟩ = some (Value.slice A1 n.f1.length c1) := blk_cell K1.out 1
          have x2 : v6.cell? ⟨w.heap.size, 2, none⟩ = some (Value.string n.f2) := blk_cell K1.out 2
          have x3 : v6.cell? ⟨w.heap.size, 3, none⟩ = some (Value.slice A3 n.f3.length c3) := blk_cell K1.out 3
          have y0 : v6.cell? ⟨w.heap.size + 1, 0, none⟩ = some (Value.int .i64 m.f0) := blk_cell K2.out 0
          have y1 : v6.cell? ⟨w.heap.size + 1, 1, none⟩ = some (Value.slice B1 m.f1.length d1) := blk_cell K2.out 1
          have y2 : v6.cell? ⟨w.heap.size + 1, 2, none⟩ = some (Value.string m.f2) := blk_cell K2.out 2
          have y3 : v6.cell? ⟨w.heap.size + 1, 3, none⟩ = some (Value.slice B3 m.f3.length d3) := blk_cell K2.out 3
          go_wp2_with fail
          refine hK.out _ _ ⟨HB.out, x0, x1, x2, x3, y0, y1, y2, y3⟩ (fun hHeld => ?_)
          clear hK K
          try simp only [Act.put, List.getElem_toArray, List.getElem_cons_succ, List.getElem_cons_zero, List.setIfInBounds_toArray, List.set_cons_zero, List.set_cons_succ]
          refine' wpAnyH_take (i := 5) (v := _) rfl (by kernel_rfl) (by kernel_rfl) (by kernel_rfl) (fun _ _ _ h => h) (Or.inl ⟨by rfl, ?hyq3x5⟩) (by assumption) ?restq3x5
          case hyq3x5 =>
            intro v hSw
            try dsimp only at hSw
            go_simp
            try with_reducible rfl
          try simp only [Act.put, List.getElem_toArray, List.getElem_cons_succ, List.getElem_cons_zero, List.setIfInBounds_toArray, List.set_cons_zero, List.set_cons_succ]
          refine' wpAnyH_take (i := 6) (v := _) rfl (by kernel_rfl) (by kernel_rfl) (by kernel_rfl) (fun _ _ _ h => h) (Or.inl ⟨by rfl, ?hyq3x6⟩) (by assumption) ?restq3x6
          case hyq3x6 =>
            intro v hSw
            try dsimp only at hSw
            go_simp
            try with_reducible rfl
          try simp only [Act.put, List.getElem_toArray, List.getElem_cons_succ, List.getElem_cons_zero, List.setIfInBounds_toArray, List.set_cons_zero, List.set_cons_succ]
          refine wpAnyH_take (i := 7) (v := undef) rfl (by kernel_rfl) (by kernel_rfl) (by kernel_rfl) (fun _ _ _ h => h) (Or.inr ⟨rfl, rfl⟩) (by assumption) ?_
          try simp only [Act.put, List.getElem_toArray, List.getElem_cons_succ, List.getElem_cons_zero, List.setIfInBounds_toArray, List.set_cons_zero, List.set_cons_succ]
          refine wpAnyH_take (i := 8) (v := undef) rfl (by kernel_rfl) (by kernel_rfl) (by kernel_rfl) (fun _ _ _ h => h) (Or.inr ⟨rfl, rfl⟩) (by assumption) ?_
          try simp only [Act.put, List.getElem_toArray, List.getElem_cons_succ, List.getElem_cons_zero, List.setIfInBounds_toArray, List.set_cons_zero, List.set_cons_succ]
          refine wpAnyH_take (i := 9) (v := undef) rfl (by kernel_rfl) (by kernel_rfl) (by kernel_rfl) (fun _ _ _ h => h) (Or.inr ⟨rfl, rfl⟩) (by assumption) ?_
          try simp only [Act.put, List.getElem_toArray, List.getElem_cons_succ, List.getElem_cons_zero, List.setIfInBounds_toArray, List.set_cons_zero, List.set_cons_succ]
          refine wpAnyH_take (i := 10) (v := undef) rfl (by kernel_rfl) (by kernel_rfl) (by kernel_rfl) (fun _ _ _ h => h) (Or.inr ⟨rfl, rfl⟩) (by assumption) ?_
          try simp only [Act.put, List.getElem_toArray, List.getElem_cons_succ, List.getElem_cons_zero, List.setIfInBounds_toArray, List.set_cons_zero, List.set_cons_succ]
          refine wpAnyH_take (i := 11) (v := undef) rfl (by kernel_rfl) (by kernel_rfl) (by kernel_rfl) (fun _ _ _ h => h) (Or.inr ⟨rfl, rfl⟩) (by assumption) ?_
          try simp only [Act.put, List.getElem_toArray, List.getElem_cons_succ, List.getElem_cons_zero, List.setIfInBounds_toArray, List.set_cons_zero, List.set_cons_succ]
          refine wpAnyH_take (i := 12) (v := undef) rfl (by kernel_rfl) (by kernel_rfl) (by kernel_rfl) (fun _ _ _ h => h) (Or.inr ⟨rfl, rfl⟩) (by assumption) ?_
          try simp only [Act.put, List.getElem_toArray, List.getElem_cons_succ, List.getElem_cons_zero, List.setIfInBounds_toArray, List.set_cons_zero, List.set_cons_succ]
          refine wpAnyH_take (i := 13) (v := undef) rfl (by kernel_rfl) (by kernel_rfl) (by kernel_rfl) (fun _ _ _ h => h) (Or.inr ⟨rfl, rfl⟩) (by assumption) ?_
          try simp only [Act.put, List.getElem_toArray, List.getElem_cons_succ, List.getElem_cons_zero, List.setIfInBounds_toArray, List.set_cons_zero, List.set_cons_succ]
          refine wpAnyH_take (i := 14) (v := undef) rfl (by kernel_rfl) (by kernel_rfl) (by kernel_rfl) (fun _ _ _ h => h) (Or.inr ⟨rfl, rfl⟩) (by assumption) ?_
          try simp only [Act.put, List.getElem_toArray, List.getElem_cons_succ, List.getElem_cons_zero, List.setIfInBounds_toArray, List.set_cons_zero, List.set_cons_succ]
          refine wpAnyH_take (i := 15) (v := undef) rfl (by kernel_rfl) (by kernel_rfl) (by kernel_rfl) (fun _ _ _ h => h) (Or.inr ⟨rfl, rfl⟩) (by assumption) ?_
          try simp only [Act.put, List.getElem_toArray, List.getElem_cons_succ, List.getElem_cons_zero, List.setIfInBounds_toArray, List.set_cons_zero, List.set_cons_succ]
          refine' wpAnyH_take (i := 16) (v := _) rfl (by kernel_rfl) (by kernel_rfl) (by kernel_rfl) (fun _ _ _ h => h) (Or.inl ⟨by rfl, ?hyq3x16⟩) (by assumption) ?restq3x16
          case hyq3x16 =>
            intro v hSw
            try dsimp only at hSw
            go_simp
            try with_reducible rfl
          try simp only [Act.put, List.getElem_toArray, List.getElem_cons_succ, List.getElem_cons_zero, List.setIfInBounds_toArray, List.set_cons_zero, List.set_cons_succ]
          refine wpAnyH_done (by kernel_rfl) ?_ _
          refine NoPanic.normal ?_
          go_wp2_with (first | (go_at_call 6; refine (AWA.out _ HB.out).mono ?_; intro e v9 hh; obtain ⟨rfl, hb⟩ := hh; replace HB := Aside0.mk (HB.out.trans (hb.mono HB.out.size)); clear hb))
          go_ret
          exact ⟨rfl, HB.out⟩
  have hl := hlaw nn nm
  rw [nn] at NON
  rw [nm] at NOM
  clear nn nm hlaw
  cases sm
  · have hl2 : (innerP n == innerP m) = false := by
      rw [beq_eq_false_iff_ne]
      intro e
      exact absurd (hl.1 e) (by decide)
    clear hl
    go_enter Tryd.func4, Tryd.ntmps4
    go_wp2_with (first | (go_at_call 5; refine (HEN.out _ HB.out).mono ?_; intro e v2 hh; obtain ⟨rfl, hb⟩ := hh; clear HEN; replace HB := Aside0.mk (HB.out.trans (hb.mono HB.out.size)); replace K1 := Aside0.mk (blk_below K1.out hb); replace K2 := Aside0.mk (blk_below K2.out hb); clear hb; have x0 : v2.cell? ⟨w.heap.size, 0, none⟩ = some (Value.int .i64 n.f0) := blk_cell K1.out 0; have x1 : v2.cell? ⟨w.heap.size, 1, none⟩ = some (Value.slice A1 n.f1.length c1) := blk_cell K1.out 1; have x2 : v2.cell? ⟨w.heap.size, 2, none⟩ = some (Value.string n.f2) := blk_cell K1.out 2; have x3 : v2.cell? ⟨w.heap.size, 3, none⟩ = some (Value.slice A3 n.f3.length c3) := blk_cell K1.out 3; have y0 : v2.cell? ⟨w.heap.size + 1, 0, none⟩ = some (Value.int .i64 m.f0) := blk_cell K2.out 0; have y1 : v2.cell? ⟨w.heap.size + 1, 1, none⟩ = some (Value.slice B1 m.f1.length d1) := blk_cell K2.out 1; have y2 : v2.cell? ⟨w.heap.size + 1, 2, none⟩ = some (Value.string m.f2) := blk_cell K2.out 2; have y3 : v2.cell? ⟨w.heap.size + 1, 3, none⟩ = some (Value.slice B3 m.f3.length d3) := blk_cell K2.out 3) | (go_at_call 5; refine (HEM.out _ HB.out).mono ?_; intro e v3 hh; obtain ⟨rfl, hb⟩ := hh; replace HB := Aside0.mk (HB.out.trans (hb.mono HB.out.size)); replace K1 := Aside0.mk (blk_below K1.out hb); replace K2 := Aside0.mk (blk_below K2.out hb); clear hb; clear x0 x1 x2 x3 y0 y1 y2 y3; have x0 : v3.cell? ⟨w.heap.size, 0, none⟩ = some (Value.int .i64 n.f0) := blk_cell K1.out 0; have x1 : v3.cell? ⟨w.heap.size, 1, none⟩ = some (Value.slice A1 n.f1.length c1) := blk_cell K1.out 1; have x2 : v3.cell? ⟨w.heap.size, 2, none⟩ = some (Value.string n.f2) := blk_cell K1.out 2; have x3 : v3.cell? ⟨w.heap.size, 3, none⟩ = some (Value.slice A3 n.f3.length c3) := blk_cell K1.out 3; have y0 : v3.cell? ⟨w.heap.size + 1, 0, none⟩ = some (Value.int .i64 m.f0) := blk_cell K2.out 0; have y1 : v3.cell? ⟨w.heap.size + 1, 1, none⟩ = some (Value.slice B1 m.f1.length d1) := blk_cell K2.out 1; have y2 : v3.cell? ⟨w.heap.size + 1, 2, none⟩ = some (Value.string m.f2) := blk_cell K2.out 2; have y3 : v3.cell? ⟨w.heap.size + 1, 3, none⟩ = some (Value.slice B3 m.f3.length d3) := blk_cell K2.out 3))
    go_loopw [5, 6] (fun v5 v6 wr => ∃ (i : Nat), v6 = .int .i64 i ∧ v5 = .string ⟨(kidsP (n.f3.take i)).toArray⟩ ∧ i ≤ n.f3.length ∧ Aside0 (Below w.heap.size w wr) ∧ Aside0 (wr.heap[w.heap.size]? = some (.cells #[.int .i64 n.f0, .slice A1 n.f1.length c1, .string n.f2, .slice A3 n.f3.length c3] 25 (0, 0))) ∧ Aside0 (wr.heap[w.heap.size + 1]? = some (.cells #[.int .i64 m.f0, .slice B1 m.f1.length d1, .string m.f2, .slice B3 m.f3.length d3] 25 (0, 0)))) (fun v5 v6 _ => n.f3.length - (intOf v6).toNat)
    case atStart => exact ⟨0, rfl, rfl, Nat.zero_le _, HB, K1, K2⟩
    case round =>
      clear HB K1 K2 x0 x1 x2 x3 y0 y1 y2 y3
      obtain ⟨i, rfl, rfl, hi, HB, K1, K2⟩ := hrel
      have x0 : wr.cell? ⟨w.heap.size, 0, none⟩ = some (Value.int .i64 n.f0) := blk_cell K1.out 0; have x1 : wr.cell? ⟨w.heap.size, 1, none⟩ = some (Value.slice A1 n.f1.length c1) := blk_cell K1.out 1; have x2 : wr.cell? ⟨w.heap.size, 2, none⟩ = some (Value.string n.f2) := blk_cell K1.out 2; have x3 : wr.cell? ⟨w.heap.size, 3, none⟩ = some (Value.slice A3 n.f3.length c3) := blk_cell K1.out 3; have y0 : wr.cell? ⟨w.heap.size + 1, 0, none⟩ = some (Value.int .i64 m.f0) := blk_cell K2.out 0; have y1 : wr.cell? ⟨w.heap.size + 1, 1, none⟩ = some (Value.slice B1 m.f1.length d1) := blk_cell K2.out 1; have y2 : wr.cell? ⟨w.heap.size + 1, 2, none⟩ = some (Value.string m.f2) := blk_cell K2.out 2; have y3 : wr.cell? ⟨w.heap.size + 1, 3, none⟩ = some (Value.slice B3 m.f3.length d3) := blk_cell K2.out 3
      by_cases hlt : i < n.f3.length
      · have q1 : (0 : Int) ≤ (i : Int) := by omega
        have q2 : (i : Int) < (n.f3.length : Int) := by omega
        obtain ⟨ad, E1, f1, E3, f3, eA, hx0, hx1, hx2, hx3, m1, g1, m3, g3⟩ := at_T25 H3.out (i : Int) q1 q2
        have hrd : rd_T25 n.f3 (i : Int) = n.f3[i] := by simp [rd_T25, List.getD_eq_getElem?_getD, List.getElem?_eq_getElem hlt]
        rw [hrd] at hx0 hx1 hx2 hx3 m1 g1 m3 g3
        have HTK := Aside0.mk (kidsP_take n.f3 i hlt)
        have HTL := Aside0.mk (kidsP_take_le n.f3 (i + 1))
        generalize n.f3[i] = k2 at *
        clear hrd
        simp only [Int.toNat_natCast] at hx0 hx1 hx2 hx3
        subst eA
        replace hx0 := (HB.out.cell (World.block_lt_of_cell? w _ hx0)).trans hx0
        replace hx1 := (HB.out.cell (World.block_lt_of_cell? w _ hx1)).trans hx1
        replace hx2 := (HB.out.cell (World.block_lt_of_cell? w _ hx2)).trans hx2
        replace hx3 := (HB.out.cell (World.block_lt_of_cell? w _ hx3)).trans hx3
        have HLB := Aside0.mk (show (kidsP (n.f3.take i)).length + (nodeP k2).length ≤ 70368744177664 by have h1 := HTL.out; have h2 := HKN.out; rw [HTK.out, List.length_append] at h1; omega)
        have OUT := Aside0.mk (print_Outer.calls k2.f0 E1 f1 k2.f1 k2.f2 E3 f3 k2.f3 ⟨(nodeP k2).toArray⟩ wr (Kd.C_below g1 HB.out) m1 (Kd.C_below g3 HB.out) m3 (outer_f k2 (by have := HLB.out; omega)))
        have hadd : ∀ v : World, (Op.stringOp .add ⟨(kidsP (n.f3.take i)).toArray⟩ ⟨(nodeP k2).toArray⟩).run Tryd.prog v = .ok (.string (⟨(kidsP (n.f3.take i)).toArray⟩ ++ ⟨(nodeP k2).toArray⟩)) v := fun v => run_string_add_sum v _ _ (by rw [ba_size, ba_size]; have := HLB.out; omega)
        clear m1 g1 m3 g3
        go_wp2_with fail
        refine OUT.out.mono ?_
        intro e v4 hh
        obtain ⟨rfl, hb⟩ := hh
        clear x0 x1 x2 x3 y0 y1 y2 y3; replace HB := Aside0.mk (HB.out.trans (hb.mono HB.out.size)); replace K1 := Aside0.mk (blk_below K1.out hb); replace K2 := Aside0.mk (blk_below K2.out hb); clear hb
        go_wp2
        go_roundw
        case rel => exact ⟨i + 1, by go_num, by rw [HTK.out, ba_append], by omega, HB, K1, K2⟩
        case measure => simp [intOf]; omega
      · obtain rfl : i = n.f3.length := by omega
        rw [List.take_length]
        by_cases hz : n.f0 = 0
        · have b0 : (n.f0 != 0) = false := by simp [hz]
          clear hz HINN
          go_wp2
          go_region_held3 (fun v => Below w.heap.size w v ∧ v.cell? ⟨w.heap.size, 0, none⟩ = some (Value.int .i64 n.f0) ∧ v.cell? ⟨w.heap.size, 1, none⟩ = some (Value.slice A1 n.f1.length c1) ∧ v.cell? ⟨w.heap.size, 2, none⟩ = some (Value.string n.f2) ∧ v.cell? ⟨w.heap.size, 3, none⟩ = some (Value.slice A3 n.f3.length c3) ∧ v.cell? ⟨w.heap.size + 1, 0, none⟩ = some (Value.int .i64 m.f0) ∧ v.cell? ⟨w.heap.size + 1, 1, none⟩ = some (Value.slice B1 m.f1.length d1) ∧ v.cell? ⟨w.heap.size + 1, 2, none⟩ = some (Value.string m.f2) ∧ v.cell? ⟨w.heap.size + 1, 3, none⟩ = some (Value.slice B3 m.f3.length d3)) (first | exact ⟨HB.out, x0, x1, x2, x3, y0, y1, y2, y3⟩ | exact ⟨HB.out.drew, x0, x1, x2, x3, y0, y1, y2, y3⟩) (first | (go_at_call 12; replace HB := Aside0.mk HB.out.drew; replace K1 := Aside0.mk (blk_drew K1.out); replace K2 := Aside0.mk (blk_drew K2.out); refine (NON.out _ HB.out).mono ?_; intro e v5 hh; obtain ⟨rfl, hb⟩ := hh; clear NON; replace HB := Aside0.mk (HB.out.trans (hb.mono HB.out.size)); replace K1 := Aside0.mk (blk_below K1.out hb); replace K2 := Aside0.mk (blk_below K2.out hb); clear hb; clear x0 x1 x2 x3 y0 y1 y2 y3; have x0 : v5.cell? ⟨w.heap.size, 0, none⟩ = some (Value.int .i64 n.f0) := blk_cell K1.out 0; have x1 : v5.cell? ⟨w.heap.size, 1, none⟩ = some (Value.slice A1 n.f1.length c1) := blk_cell K1.out 1; have x2 : v5.cell? ⟨w.heap.size, 2, none⟩ = some (Value.string n.f2) := blk_cell K1.out 2; have x3 : v5.cell? ⟨w.heap.size, 3, none⟩ = some (Value.slice A3 n.f3.length c3) := blk_cell K1.out 3; have y0 : v5.cell? ⟨w.heap.size + 1, 0, none⟩ = some (Value.int .i64 m.f0) := blk_cell K2.out 0; have y1 : v5.cell? ⟨w.heap.size + 1, 1, none⟩ = some (Value.slice B1 m.f1.length d1) := blk_cell K2.out 1; have y2 : v5.cell? ⟨w.heap.size + 1, 2, none⟩ = some (Value.string m.f2) := blk_cell K2.out 2; have y3 : v5.cell? ⟨w.heap.size + 1, 3, none⟩ = some (Value.slice B3 m.f3.length d3) := blk_cell K2.out 3) | (go_at_call 12; refine (NOM.out _ HB.out).mono ?_; intro e v6 hh; obtain ⟨rfl, hb⟩ := hh; clear NOM; replace HB := Aside0.mk (HB.out.trans (hb.mono HB.out.size)); replace K1 := Aside0.mk (blk_below K1.out hb); replace K2 := Aside0.mk (blk_below K2.out hb); clear hb; clear x0 x1 x2 x3 y0 y1 y2 y3; have x0 : v6.cell? ⟨w.heap.size, 0, none⟩ = some (Value.int .i64 n.f0) := blk_cell K1.out 0; have x1 : v6.cell? ⟨w.heap.size, 1, none⟩ = some (Value.slice A1 n.f1.length c1) := blk_cell K1.out 1; have x2 : v6.cell? ⟨w.heap.size, 2, none⟩ = some (Value.string n.f2) := blk_cell K1.out 2; have x3 : v6.cell? ⟨w.heap.size, 3, none⟩ = some (Value.slice A3 n.f3.length c3) := blk_cell K1.out 3; have y0 : v6.cell? ⟨w.heap.size + 1, 0, none⟩ = some (Value.int .i64 m.f0) := blk_cell K2.out 0; have y1 : v6.cell? ⟨w.heap.size + 1, 1, none⟩ = some (Value.slice B1 m.f1.length d1) := blk_cell K2.out 1; have y2 : v6.cell? ⟨w.heap.size + 1, 2, none⟩ = some (Value.string m.f2) := blk_cell K2.out 2; have y3 : v6.cell? ⟨w.heap.size + 1, 3, none⟩ = some (Value.slice B3 m.f3.length d3) := blk_cell K2.out 3) | (go_at_call 10; refine (INN.out _ HB.out).mono ?_; intro e v7 hh; obtain ⟨rfl, hb⟩ := hh; clear INN; replace HB := Aside0.mk (HB.out.trans (hb.mono HB.out.size)); replace K1 := Aside0.mk (blk_below K1.out hb); replace K2 := Aside0.mk (blk_below K2.out hb); clear hb; clear x0 x1 x2 x3 y0 y1 y2 y3; have x0 : v7.cell? ⟨w.heap.size, 0, none⟩ = some (Value.int .i64 n.f0) := blk_cell K1.out 0; have x1 : v7.cell? ⟨w.heap.size, 1, none⟩ = some (Value.slice A1 n.f1.length c1) := blk_cell K1.out 1; have x2 : v7.cell? ⟨w.heap.size, 2, none⟩ = some (Value.string n.f2) := blk_cell K1.out 2; have x3 : v7.cell? ⟨w.heap.size, 3, none⟩ = some (Value.slice A3 n.f3.length c3) := blk_cell K1.out 3; have y0 : v7.cell? ⟨w.heap.size + 1, 0, none⟩ = some (Value.int .i64 m.f0) := blk_cell K2.out 0; have y1 : v7.cell? ⟨w.heap.size + 1, 1, none⟩ = some (Value.slice B1 m.f1.length d1) := blk_cell K2.out 1; have y2 : v7.cell? ⟨w.heap.size + 1, 2, none⟩ = some (Value.string m.f2) := blk_cell K2.out 2; have y3 : v7.cell? ⟨w.heap.size + 1, 3, none⟩ = some (Value.slice B3 m.f3.length d3) := blk_cell K2.out 3) | (go_at_call 10; refine (INM.out _ HB.out).mono ?_; intro e v8 hh; obtain ⟨rfl, hb⟩ := hh; clear INM; replace HB := Aside0.mk (HB.out.trans (hb.mono HB.out.size)); replace K1 := Aside0.mk (blk_below K1.out hb); replace K2 := Aside0.mk (blk_below K2.out hb); clear hb; clear x0 x1 x2 x3 y0 y1 y2 y3; have x0 : v8.cell? ⟨w.heap.size, 0, none⟩ = some (Value.int .i64 n.f0) := blk_cell K1.out 0; have x1 : v8.cell? ⟨w.heap.size, 1, none⟩ = some (Value.slice A1 n.f1.length c1) := blk_cell K1.out 1; have x2 : v8.cell? ⟨w.heap.size, 2, none⟩ = some (Value.string n.f2) := blk_cell K1.out 2; have x3 : v8.cell? ⟨w.heap.size, 3, none⟩ = some (Value.slice A3 n.f3.length c3) := blk_cell K1.out 3; have y0 : v8.cell? ⟨w.heap.size + 1, 0, none⟩ = some (Value.int .i64 m.f0) := blk_cell K2.out 0; have y1 : v8.cell? ⟨w.heap.size + 1, 1, none⟩ = some (Value.slice B1 m.f1.length d1) := blk_cell K2.out 1; have y2 : v8.cell? ⟨w.heap.size + 1, 2, none⟩ = some (Value.string m.f2) := blk_cell K2.out 2; have y3 : v8.cell? ⟨w.heap.size + 1, 3, none⟩ = some (Value.slice B3 m.f3.length d3) := blk_cell K2.out 3) | (go_at_call 14; refine (SAM.out _ HB.out).mono ?_; intro e v10 hh; obtain ⟨rfl, hb⟩ := hh; clear SAM; replace HB := Aside0.mk (HB.out.trans (hb.mono HB.out.size)); replace K1 := Aside0.mk (blk_below K1.out hb); replace K2 := Aside0.mk (blk_below K2.out hb); clear hb; clear x0 x1 x2 x3 y0 y1 y2 y3; have x0 : v10.cell? ⟨w.heap.size, 0, none⟩ = some (Value.int .i64 n.f0) := blk_cell K1.out 0; have x1 : v10.cell? ⟨w.heap.size, 1, none⟩ = some (Value.slice A1 n.f1.length c1) := blk_cell K1.out 1; have x2 : v10.cell? ⟨w.heap.size, 2, none⟩ = some (Value.string n.f2) := blk_cell K1.out 2; have x3 : v10.cell? ⟨w.heap.size, 3, none⟩ = some (Value.slice A3 n.f3.length c3) := blk_cell K1.out 3; have y0 : v10.cell? ⟨w.heap.size + 1, 0, none⟩ = some (Value.int .i64 m.f0) := blk_cell K2.out 0; have y1 : v10.cell? ⟨w.heap.size + 1, 1, none⟩ = some (Value.slice B1 m.f1.length d1) := blk_cell K2.out 1; have y2 : v10.cell? ⟨w.heap.size + 1, 2, none⟩ = some (Value.string m.f2) := blk_cell K2.out 2; have y3 : v10.cell? ⟨w.heap.size + 1, 3, none⟩ = some (Value.slice B3 m.f3.length d3) := blk_cell K2.out 3))
          go_wp2_with (first | (go_at_call 6; refine (AWA.out _ HB.out).mono ?_; intro e v9 hh; obtain ⟨rfl, hb⟩ := hh; replace HB := Aside0.mk (HB.out.trans (hb.mono HB.out.size)); clear hb))
          go_ret
          exact ⟨rfl, HB.out⟩
        · have b0 : (n.f0 != 0) = true := by simp [hz]
          rw [← HINN.out hz]
          have hq : ((⟨(innerP n).toArray⟩ : ByteArray).toList != (⟨(innerP n).toArray⟩ : ByteArray).toList) = false := by simp
          clear hz HINN
          go_wp2_with (first | (go_at_call 10; refine (INN.out _ HB.out).mono ?_; intro e v4 hh; obtain ⟨rfl, hb⟩ := hh; replace HB := Aside0.mk (HB.out.trans (hb.mono HB.out.size)); replace K1 := Aside0.mk (blk_below K1.out hb); replace K2 := Aside0.mk (blk_below K2.out hb); clear hb; clear x0 x1 x2 x3 y0 y1 y2 y3; have x0 : v4.cell? ⟨w.heap.size, 0, none⟩ = some (Value.int .i64 n.f0) := blk_cell K1.out 0; have x1 : v4.cell? ⟨w.heap.size, 1, none⟩ = some (Value.slice A1 n.f1.length c1) := blk_cell K1.out 1; have x2 : v4.cell? ⟨w.heap.size, 2, none⟩ = some (Value.string n.f2) := blk_cell K1.out 2; have x3 : v4.cell? ⟨w.heap.size, 3, none⟩ = some (Value.slice A3 n.f3.length c3) := blk_cell K1.out 3; have y0 : v4.cell? ⟨w.heap.size + 1, 0, none⟩ = some (Value.int .i64 m.f0) := blk_cell K2.out 0; have y1 : v4.cell? ⟨w.heap.size + 1, 1, none⟩ = some (Value.slice B1 m.f1.length d1) := blk_cell K2.out 1; have y2 : v4.cell? ⟨w.heap.size + 1, 2, none⟩ = some (Value.string m.f2) := blk_cell K2.out 2; have y3 : v4.cell? ⟨w.heap.size + 1, 3, none⟩ = some (Value.slice B3 m.f3.length d3) := blk_cell K2.out 3))
          go_region_held3 (fun v => Below w.heap.size w v ∧ v.cell? ⟨w.heap.size, 0, none⟩ = some (Value.int .i64 n.f0) ∧ v.cell? ⟨w.heap.size, 1, none⟩ = some (Value.slice A1 n.f1.length c1) ∧ v.cell? ⟨w.heap.size, 2, none⟩ = some (Value.string n.f2) ∧ v.cell? ⟨w.heap.size, 3, none⟩ = some (Value.slice A3 n.f3.length c3) ∧ v.cell? ⟨w.heap.size + 1, 0, none⟩ = some (Value.int .i64 m.f0) ∧ v.cell? ⟨w.heap.size + 1, 1, none⟩ = some (Value.slice B1 m.f1.length d1) ∧ v.cell? ⟨w.heap.size + 1, 2, none⟩ = some (Value.string m.f2) ∧ v.cell? ⟨w.heap.size + 1, 3, none⟩ = some (Value.slice B3 m.f3.length d3)) (first | exact ⟨HB.out, x0, x1, x2, x3, y0, y1, y2, y3⟩ | exact ⟨HB.out.drew, x0, x1, x2, x3, y0, y1, y2, y3⟩) (first | (go_at_call 12; replace HB := Aside0.mk HB.out.drew; replace K1 := Aside0.mk (blk_drew K1.out); replace K2 := Aside0.mk (blk_drew K2.out); refine (NON.out _ HB.out).mono ?_; intro e v5 hh; obtain ⟨rfl, hb⟩ := hh; clear NON; replace HB := Aside0.mk (HB.out.trans (hb.mono HB.out.size)); replace K1 := Aside0.mk (blk_below K1.out hb); replace K2 := Aside0.mk (blk_below K2.out hb); clear hb; clear x0 x1 x2 x3 y0 y1 y2 y3; have x0 : v5.cell? ⟨w.heap.size, 0, none⟩ = some (Value.int .i64 n.f0) := blk_cell K1.out 0; have x1 : v5.cell? ⟨w.heap.size, 1, none⟩ = some (Value.slice A1 n.f1.length c1) := blk_cell K1.out 1; have x2 : v5.cell? ⟨w.heap.size, 2, none⟩ = some (Value.string n.f2) := blk_cell K1.out 2; have x3 : v5.cell? ⟨w.heap.size, 3, none⟩ = some (Value.slice A3 n.f3.length c3) := blk_cell K1.out 3; have y0 : v5.cell? ⟨w.heap.size + 1, 0, none⟩ = some (Value.int .i64 m.f0) := blk_cell K2.out 0; have y1 : v5.cell? ⟨w.heap.size + 1, 1, none⟩ = some (Value.slice B1 m.f1.length d1) := blk_cell K2.out 1; have y2 : v5.cell? ⟨w.heap.size + 1, 2, none⟩ = some (Value.string m.f2) := blk_cell K2.out 2; have y3 : v5.cell? ⟨w.heap.size + 1, 3, none⟩ = some (Value.slice B3 m.f3.length d3) := blk_cell K2.out 3) | (go_at_call 12; refine (NOM.out _ HB.out).mono ?_; intro e v6 hh; obtain ⟨rfl, hb⟩ := hh; clear NOM; replace HB := Aside0.mk (HB.out.trans (hb.mono HB.out.size)); replace K1 := Aside0.mk (blk_below K1.out hb); replace K2 := Aside0.mk (blk_below K2.out hb); clear hb; clear x0 x1 x2 x3 y0 y1 y2 y3; have x0 : v6.cell? ⟨w.heap.size, 0, none⟩ = some (Value.int .i64 n.f0) := blk_cell K1.out 0; have x1 : v6.cell? ⟨w.heap.size, 1, none⟩ = some (Value.slice A1 n.f1.length c1) := blk_cell K1.out 1; have x2 : v6.cell? ⟨w.heap.size, 2, none⟩ = some (Value.string n.f2) := blk_cell K1.out 2; have x3 : v6.cell? ⟨w.heap.size, 3, none⟩ = some (Value.slice A3 n.f3.length c3) := blk_cell K1.out 3; have y0 : v6.cell? ⟨w.heap.size + 1, 0, none⟩ = some (Value.int .i64 m.f0) := blk_cell K2.out 0; have y1 : v6.cell? ⟨w.heap.size + 1, 1, none⟩ = some (Value.slice B1 m.f1.length d1) := blk_cell K2.out 1; have y2 : v6.cell? ⟨w.heap.size + 1, 2, none⟩ = some (Value.string m.f2) := blk_cell K2.out 2; have y3 : v6.cell? ⟨w.heap.size + 1, 3, none⟩ = some (Value.slice B3 m.f3.length d3) := blk_cell K2.out 3) | (go_at_call 10; refine (INN.out _ HB.out).mono ?_; intro e v7 hh; obtain ⟨rfl, hb⟩ := hh; clear INN; replace HB := Aside0.mk (HB.out.trans (hb.mono HB.out.size)); replace K1 := Aside0.mk (blk_below K1.out hb); replace K2 := Aside0.mk (blk_below K2.out hb); clear hb; clear x0 x1 x2 x3 y0 y1 y2 y3; have x0 : v7.cell? ⟨w.heap.size, 0, none⟩ = some (Value.int .i64 n.f0) := blk_cell K1.out 0; have x1 : v7.cell? ⟨w.heap.size, 1, none⟩ = some (Value.slice A1 n.f1.length c1) := blk_cell K1.out 1; have x2 : v7.cell? ⟨w.heap.size, 2, none⟩ = some (Value.string n.f2) := blk_cell K1.out 2; have x3 : v7.cell? ⟨w.heap.size, 3, none⟩ = some (Value.slice A3 n.f3.length c3) := blk_cell K1.out 3; have y0 : v7.cell? ⟨w.heap.size + 1, 0, none⟩ = some (Value.int .i64 m.f0) := blk_cell K2.out 0; have y1 : v7.cell? ⟨w.heap.size + 1, 1, none⟩ = some (Value.slice B1 m.f1.length d1) := blk_cell K2.out 1; have y2 : v7.cell? ⟨w.heap.size + 1, 2, none⟩ = some (Value.string m.f2) := blk_cell K2.out 2; have y3 : v7.cell? ⟨w.heap.size + 1, 3, none⟩ = some (Value.slice B3 m.f3.length d3) := blk_cell K2.out 3) | (go_at_call 10; refine (INM.out _ HB.out).mono ?_; intro e v8 hh; obtain ⟨rfl, hb⟩ := hh; clear INM; replace HB := Aside0.mk (HB.out.trans (hb.mono HB.out.size)); replace K1 := Aside0.mk (blk_below K1.out hb); replace K2 := Aside0.mk (blk_below K2.out hb); clear hb; clear x0 x1 x2 x3 y0 y1 y2 y3; have x0 : v8.cell? ⟨w.heap.size, 0, none⟩ = some (Value.int .i64 n.f0) := blk_cell K1.out 0; have x1 : v8.cell? ⟨w.heap.size, 1, none⟩ = some (Value.slice A1 n.f1.length c1) := blk_cell K1.out 1; have x2 : v8.cell? ⟨w.heap.size, 2, none⟩ = some (Value.string n.f2) := blk_cell K1.out 2; have x3 : v8.cell? ⟨w.heap.size, 3, none⟩ = some (Value.slice A3 n.f3.length c3) := blk_cell K1.out 3; have y0 : v8.cell? ⟨w.heap.size + 1, 0, none⟩ = some (Value.int .i64 m.f0) := blk_cell K2.out 0; have y1 : v8.cell? ⟨w.heap.size + 1, 1, none⟩ = some (Value.slice B1 m.f1.length d1) := blk_cell K2.out 1; have y2 : v8.cell? ⟨w.heap.size + 1, 2, none⟩ = some (Value.string m.f2) := blk_cell K2.out 2; have y3 : v8.cell? ⟨w.heap.size + 1, 3, none⟩ = some (Value.slice B3 m.f3.length d3) := blk_cell K2.out 3) | (go_at_call 14; refine (SAM.out _ HB.out).mono ?_; intro e v10 hh; obtain ⟨rfl, hb⟩ := hh; clear SAM; replace HB := Aside0.mk (HB.out.trans (hb.mono HB.out.size)); replace K1 := Aside0.mk (blk_below K1.out hb); replace K2 := Aside0.mk (blk_below K2.out hb); clear hb; clear x0 x1 x2 x3 y0 y1 y2 y3; have x0 : v10.cell? ⟨w.heap.size, 0, none⟩ = some (Value.int .i64 n.f0) := blk_cell K1.out 0; have x1 : v10.cell? ⟨w.heap.size, 1, none⟩ = some (Value.slice A1 n.f1.length c1) := blk_cell K1.out 1; have x2 : v10.cell? ⟨w.heap.size, 2, none⟩ = some (Value.string n.f2) := blk_cell K1.out 2; have x3 : v10.cell? ⟨w.heap.size, 3, none⟩ = some (Value.slice A3 n.f3.length c3) := blk_cell K1.out 3; have y0 : v10.cell? ⟨w.heap.size + 1, 0, none⟩ = some (Value.int .i64 m.f0) := blk_cell K2.out 0; have y1 : v10.cell? ⟨w.heap.size + 1, 1, none⟩ = some (Value.slice B1 m.f1.length d1) := blk_cell K2.out 1; have y2 : v10.cell? ⟨w.heap.size + 1, 2, none⟩ = some (Value.string m.f2) := blk_cell K2.out 2; have y3 : v10.cell? ⟨w.heap.size + 1, 3, none⟩ = some (Value.slice B3 m.f3.length d3) := blk_cell K2.out 3))
          go_wp2_with (first | (go_at_call 6; refine (AWA.out _ HB.out).mono ?_; intro e v9 hh; obtain ⟨rfl, hb⟩ := hh; replace HB := Aside0.mk (HB.out.trans (hb.mono HB.out.size)); clear hb))
          go_ret
          exact ⟨rfl, HB.out⟩
  · have hl2 : (innerP n == innerP m) = true := by
      rw [hl.2 rfl]
      exact beq_self_eq_true _
    clear hl
    go_enter Tryd.func4, Tryd.ntmps4
    go_wp2_with (first | (go_at_call 5; refine (HEN.out _ HB.out).mono ?_; intro e v2 hh; obtain ⟨rfl, hb⟩ := hh; clear HEN; replace HB := Aside0.mk (HB.out.trans (hb.mono HB.out.size)); replace K1 := Aside0.mk (blk_below K1.out hb); replace K2 := Aside0.mk (blk_below K2.out hb); clear hb; have x0 : v2.cell? ⟨w.heap.size, 0, none⟩ = some (Value.int .i64 n.f0) := blk_cell K1.out 0; have x1 : v2.cell? ⟨w.heap.size, 1, none⟩ = some (Value.slice A1 n.f1.length c1) := blk_cell K1.out 1; have x2 : v2.cell? ⟨w.heap.size, 2, none⟩ = some (Value.string n.f2) := blk_cell K1.out 2; have x3 : v2.cell? ⟨w.heap.size, 3, none⟩ = some (Value.slice A3 n.f3.length c3) := blk_cell K1.out 3; have y0 : v2.cell? ⟨w.heap.size + 1, 0, none⟩ = some (Value.int .i64 m.f0) := blk_cell K2.out 0; have y1 : v2.cell? ⟨w.heap.size + 1, 1, none⟩ = some (Value.slice B1 m.f1.length d1) := blk_cell K2.out 1; have y2 : v2.cell? ⟨w.heap.size + 1, 2, none⟩ = some (Value.string m.f2) := blk_cell K2.out 2; have y3 : v2.cell? ⟨w.heap.size + 1, 3, none⟩ = some (Value.slice B3 m.f3.length d3) := blk_cell K2.out 3) | (go_at_call 5; refine (HEM.out _ HB.out).mono ?_; intro e v3 hh; obtain ⟨rfl, hb⟩ := hh; replace HB := Aside0.mk (HB.out.trans (hb.mono HB.out.size)); replace K1 := Aside0.mk (blk_below K1.out hb); replace K2 := Aside0.mk (blk_below K2.out hb); clear hb; clear x0 x1 x2 x3 y0 y1 y2 y3; have x0 : v3.cell? ⟨w.heap.size, 0, none⟩ = some (Value.int .i64 n.f0) := blk_cell K1.out 0; have x1 : v3.cell? ⟨w.heap.size, 1, none⟩ = some (Value.slice A1 n.f1.length c1) := blk_cell K1.out 1; have x2 : v3.cell? ⟨w.heap.size, 2, none⟩ = some (Value.string n.f2) := blk_cell K1.out 2; have x3 : v3.cell? ⟨w.heap.size, 3, none⟩ = some (Value.slice A3 n.f3.length c3) := blk_cell K1.out 3; have y0 : v3.cell? ⟨w.heap.size + 1, 0, none⟩ = some (Value.int .i64 m.f0) := blk_cell K2.out 0; have y1 : v3.cell? ⟨w.heap.size + 1, 1, none⟩ = some (Value.slice B1 m.f1.length d1) := blk_cell K2.out 1; have y2 : v3.cell? ⟨w.heap.size + 1, 2, none⟩ = some (Value.string m.f2) := blk_cell K2.out 2; have y3 : v3.cell? ⟨w.heap.size + 1, 3, none⟩ = some (Value.slice B3 m.f3.length d3) := blk_cell K2.out 3))
    go_loopw [5, 6] (fun v5 v6 wr => ∃ (i : Nat), v6 = .int .i64 i ∧ v5 = .string ⟨(kidsP (n.f3.take i)).toArray⟩ ∧ i ≤ n.f3.length ∧ Aside0 (Below w.heap.size w wr) ∧ Aside0 (wr.heap[w.heap.size]? = some (.cells #[.int .i64 n.f0, .slice A1 n.f1.length c1, .string n.f2, .slice A3 n.f3.length c3] 25 (0, 0))) ∧ Aside0 (wr.heap[w.heap.size + 1]? = some (.cells #[.int .i64 m.f0, .slice B1 m.f1.length d1, .string m.f2, .slice B3 m.f3.length d3] 25 (0, 0)))) (fun v5 v6 _ => n.f3.length - (intOf v6).toNat)
    case atStart => exact ⟨0, rfl, rfl, Nat.zero_le _, HB, K1, K2⟩
    case round =>
      clear HB K1 K2 x0 x1 x2 x3 y0 y1 y2 y3
      obtain ⟨i, rfl, rfl, hi, HB, K1, K2⟩ := hrel
      have x0 : wr.cell? ⟨w.heap.size, 0, none⟩ = some (Value.int .i64 n.f0) := blk_cell K1.out 0; have x1 : wr.cell? ⟨w.heap.size, 1, none⟩ = some (Value.slice A1 n.f1.length c1) := blk_cell K1.out 1; have x2 : wr.cell? ⟨w.heap.size, 2, none⟩ = some (Value.string n.f2) := blk_cell K1.out 2; have x3 : wr.cell? ⟨w.heap.size, 3, none⟩ = some (Value.slice A3 n.f3.length c3) := blk_cell K1.out 3; have y0 : wr.cell? ⟨w.heap.size + 1, 0, none⟩ = some (Value.int .i64 m.f0) := blk_cell K2.out 0; have y1 : wr.cell? ⟨w.heap.size + 1, 1, none⟩ = some (Value.slice B1 m.f1.length d1) := blk_cell K2.out 1; have y2 : wr.cell? ⟨w.heap.size + 1, 2, none⟩ = some (Value.string m.f2) := blk_cell K2.out 2; have y3 : wr.cell? ⟨w.heap.size + 1, 3, none⟩ = some (Value.slice B3 m.f3.length d3) := blk_cell K2.out 3
      by_cases hlt : i < n.f3.length
      · have q1 : (0 : Int) ≤ (i : Int) := by omega
        have q2 : (i : Int) < (n.f3.length : Int) := by omega
        obtain ⟨ad, E1, f1, E3, f3, eA, hx0, hx1, hx2, hx3, m1, g1, m3, g3⟩ := at_T25 H3.out (i : Int) q1 q2
        have hrd : rd_T25 n.f3 (i : Int) = n.f3[i] := by simp [rd_T25, List.getD_eq_getElem?_getD, List.getElem?_eq_getElem hlt]
        rw [hrd] at hx0 hx1 hx2 hx3 m1 g1 m3 g3
        have HTK := Aside0.mk (kidsP_take n.f3 i hlt)
        have HTL := Aside0.mk (kidsP_take_le n.f3 (i + 1))
        generalize n.f3[i] = k2 at *
        clear hrd
        simp only [Int.toNat_natCast] at hx0 hx1 hx2 hx3
        subst eA
        replace hx0 := (HB.out.cell (World.block_lt_of_cell? w _ hx0)).trans hx0
        replace hx1 := (HB.out.cell (World.block_lt_of_cell? w _ hx1)).trans hx1
        replace hx2 := (HB.out.cell (World.block_lt_of_cell? w _ hx2)).trans hx2
        replace hx3 := (HB.out.cell (World.block_lt_of_cell? w _ hx3)).trans hx3
        have HLB := Aside0.mk (show (kidsP (n.f3.take i)).length + (nodeP k2).length ≤ 70368744177664 by have h1 := HTL.out; have h2 := HKN.out; rw [HTK.out, List.length_append] at h1; omega)
        have OUT := Aside0.mk (print_Outer.calls k2.f0 E1 f1 k2.f1 k2.f2 E3 f3 k2.f3 ⟨(nodeP k2).toArray⟩ wr (Kd.C_below g1 HB.out) m1 (Kd.C_below g3 HB.out) m3 (outer_f k2 (by have := HLB.out; omega)))
        have hadd : ∀ v : World, (Op.stringOp .add ⟨(kidsP (n.f3.take i)).toArray⟩ ⟨(nodeP k2).toArray⟩).run Tryd.prog v = .ok (.string (⟨(kidsP (n.f3.take i)).toArray⟩ ++ ⟨(nodeP k2).toArray⟩)) v := fun v => run_string_add_sum v _ _ (by rw [ba_size, ba_size]; have := HLB.out; omega)
        clear m1 g1 m3 g3
        go_wp2_with fail
        refine OUT.out.mono ?_
        intro e v4 hh
        obtain ⟨rfl, hb⟩ := hh
        clear x0 x1 x2 x3 y0 y1 y2 y3; replace HB := Aside0.mk (HB.out.trans (hb.mono HB.out.size)); replace K1 := Aside0.mk (blk_below K1.out hb); replace K2 := Aside0.mk (blk_below K2.out hb); clear hb
        go_wp2
        go_roundw
        case rel => exact ⟨i + 1, by go_num, by rw [HTK.out, ba_append], by omega, HB, K1, K2⟩
        case measure => simp [intOf]; omega
      · obtain rfl : i = n.f3.length := by omega
        rw [List.take_length]
        by_cases hz : n.f0 = 0
        · have b0 : (n.f0 != 0) = false := by simp [hz]
          clear hz HINN
          go_wp2
          go_region_held3 (fun v => Below w.heap.size w v ∧ v.cell? ⟨w.heap.size, 0, none⟩ = some (Value.int .i64 n.f0) ∧ v.cell? ⟨w.heap.size, 1, none⟩ = some (Value.slice A1 n.f1.length c1) ∧ v.cell? ⟨w.heap.size, 2, none⟩ = some (Value.string n.f2) ∧ v.cell? ⟨w.heap.size, 3, none⟩ = some (Value.slice A3 n.f3.length c3) ∧ v.cell? ⟨w.heap.size + 1, 0, none⟩ = some (Value.int .i64 m.f0) ∧ v.cell? ⟨w.heap.size + 1, 1, none⟩ = some (Value.slice B1 m.f1.length d1) ∧ v.cell? ⟨w.heap.size + 1, 2, none⟩ = some (Value.string m.f2) ∧ v.cell? ⟨w.heap.size + 1, 3, none⟩ = some (Value.slice B3 m.f3.length d3)) (first | exact ⟨HB.out, x0, x1, x2, x3, y0, y1, y2, y3⟩ | exact ⟨HB.out.drew, x0, x1, x2, x3, y0, y1, y2, y3⟩) (first | (go_at_call 12; replace HB := Aside0.mk HB.out.drew; replace K1 := Aside0.mk (blk_drew K1.out); replace K2 := Aside0.mk (blk_drew K2.out); refine (NON.out _ HB.out).mono ?_; intro e v5 hh; obtain ⟨rfl, hb⟩ := hh; clear NON; replace HB := Aside0.mk (HB.out.trans (hb.mono HB.out.size)); replace K1 := Aside0.mk (blk_below K1.out hb); replace K2 := Aside0.mk (blk_below K2.out hb); clear hb; clear x0 x1 x2 x3 y0 y1 y2 y3; have x0 : v5.cell? ⟨w.heap.size, 0, none⟩ = some (Value.int .i64 n.f0) := blk_cell K1.out 0; have x1 : v5.cell? ⟨w.heap.size, 1, none⟩ = some (Value.slice A1 n.f1.length c1) := blk_cell K1.out 1; have x2 : v5.cell? ⟨w.heap.size, 2, none⟩ = some (Value.string n.f2) := blk_cell K1.out 2; have x3 : v5.cell? ⟨w.heap.size, 3, none⟩ = some (Value.slice A3 n.f3.length c3) := blk_cell K1.out 3; have y0 : v5.cell? ⟨w.heap.size + 1, 0, none⟩ = some (Value.int .i64 m.f0) := blk_cell K2.out 0; have y1 : v5.cell? ⟨w.heap.size + 1, 1, none⟩ = some (Value.slice B1 m.f1.length d1) := blk_cell K2.out 1; have y2 : v5.cell? ⟨w.heap.size + 1, 2, none⟩ = some (Value.string m.f2) := blk_cell K2.out 2; have y3 : v5.cell? ⟨w.heap.size + 1, 3, none⟩ = some (Value.slice B3 m.f3.length d3) := blk_cell K2.out 3) | (go_at_call 12; refine (NOM.out _ HB.out).mono ?_; intro e v6 hh; obtain ⟨rfl, hb⟩ := hh; clear NOM; replace HB := Aside0.mk (HB.out.trans (hb.mono HB.out.size)); replace K1 := Aside0.mk (blk_below K1.out hb); replace K2 := Aside0.mk (blk_below K2.out hb); clear hb; clear x0 x1 x2 x3 y0 y1 y2 y3; have x0 : v6.cell? ⟨w.heap.size, 0, none⟩ = some (Value.int .i64 n.f0) := blk_cell K1.out 0; have x1 : v6.cell? ⟨w.heap.size, 1, none⟩ = some (Value.slice A1 n.f1.length c1) := blk_cell K1.out 1; have x2 : v6.cell? ⟨w.heap.size, 2, none⟩ = some (Value.string n.f2) := blk_cell K1.out 2; have x3 : v6.cell? ⟨w.heap.size, 3, none⟩ = some (Value.slice A3 n.f3.length c3) := blk_cell K1.out 3; have y0 : v6.cell? ⟨w.heap.size + 1, 0, none⟩ = some (Value.int .i64 m.f0) := blk_cell K2.out 0; have y1 : v6.cell? ⟨w.heap.size + 1, 1, none⟩ = some (Value.slice B1 m.f1.length d1) := blk_cell K2.out 1; have y2 : v6.cell? ⟨w.heap.size + 1, 2, none⟩ = some (Value.string m.f2) := blk_cell K2.out 2; have y3 : v6.cell? ⟨w.heap.size + 1, 3, none⟩ = some (Value.slice B3 m.f3.length d3) := blk_cell K2.out 3) | (go_at_call 10; refine (INN.out _ HB.out).mono ?_; intro e v7 hh; obtain ⟨rfl, hb⟩ := hh; clear INN; replace HB := Aside0.mk (HB.out.trans (hb.mono HB.out.size)); replace K1 := Aside0.mk (blk_below K1.out hb); replace K2 := Aside0.mk (blk_below K2.out hb); clear hb; clear x0 x1 x2 x3 y0 y1 y2 y3; have x0 : v7.cell? ⟨w.heap.size, 0, none⟩ = some (Value.int .i64 n.f0) := blk_cell K1.out 0; have x1 : v7.cell? ⟨w.heap.size, 1, none⟩ = some (Value.slice A1 n.f1.length c1) := blk_cell K1.out 1; have x2 : v7.cell? ⟨w.heap.size, 2, none⟩ = some (Value.string n.f2) := blk_cell K1.out 2; have x3 : v7.cell? ⟨w.heap.size, 3, none⟩ = some (Value.slice A3 n.f3.length c3) := blk_cell K1.out 3; have y0 : v7.cell? ⟨w.heap.size + 1, 0, none⟩ = some (Value.int .i64 m.f0) := blk_cell K2.out 0; have y1 : v7.cell? ⟨w.heap.size + 1, 1, none⟩ = some (Value.slice B1 m.f1.length d1) := blk_cell K2.out 1; have y2 : v7.cell? ⟨w.heap.size + 1, 2, none⟩ = some (Value.string m.f2) := blk_cell K2.out 2; have y3 : v7.cell? ⟨w.heap.size + 1, 3, none⟩ = some (Value.slice B3 m.f3.length d3) := blk_cell K2.out 3) | (go_at_call 10; refine (INM.out _ HB.out).mono ?_; intro e v8 hh; obtain ⟨rfl, hb⟩ := hh; clear INM; replace HB := Aside0.mk (HB.out.trans (hb.mono HB.out.size)); replace K1 := Aside0.mk (blk_below K1.out hb); replace K2 := Aside0.mk (blk_below K2.out hb); clear hb; clear x0 x1 x2 x3 y0 y1 y2 y3; have x0 : v8.cell? ⟨w.heap.size, 0, none⟩ = some (Value.int .i64 n.f0) := blk_cell K1.out 0; have x1 : v8.cell? ⟨w.heap.size, 1, none⟩ = some (Value.slice A1 n.f1.length c1) := blk_cell K1.out 1; have x2 : v8.cell? ⟨w.heap.size, 2, none⟩ = some (Value.string n.f2) := blk_cell K1.out 2; have x3 : v8.cell? ⟨w.heap.size, 3, none⟩ = some (Value.slice A3 n.f3.length c3) := blk_cell K1.out 3; have y0 : v8.cell? ⟨w.heap.size + 1, 0, none⟩ = some (Value.int .i64 m.f0) := blk_cell K2.out 0; have y1 : v8.cell? ⟨w.heap.size + 1, 1, none⟩ = some (Value.slice B1 m.f1.length d1) := blk_cell K2.out 1; have y2 : v8.cell? ⟨w.heap.size + 1, 2, none⟩ = some (Value.string m.f2) := blk_cell K2.out 2; have y3 : v8.cell? ⟨w.heap.size + 1, 3, none⟩ = some (Value.slice B3 m.f3.length d3) := blk_cell K2.out 3) | (go_at_call 14; refine (SAM.out _ HB.out).mono ?_; intro e v10 hh; obtain ⟨rfl, hb⟩ := hh; clear SAM; replace HB := Aside0.mk (HB.out.trans (hb.mono HB.out.size)); replace K1 := Aside0.mk (blk_below K1.out hb); replace K2 := Aside0.mk (blk_below K2.out hb); clear hb; clear x0 x1 x2 x3 y0 y1 y2 y3; have x0 : v10.cell? ⟨w.heap.size, 0, none⟩ = some (Value.int .i64 n.f0) := blk_cell K1.out 0; have x1 : v10.cell? ⟨w.heap.size, 1, none⟩ = some (Value.slice A1 n.f1.length c1) := blk_cell K1.out 1; have x2 : v10.cell? ⟨w.heap.size, 2, none⟩ = some (Value.string n.f2) := blk_cell K1.out 2; have x3 : v10.cell? ⟨w.heap.size, 3, none⟩ = some (Value.slice A3 n.f3.length c3) := blk_cell K1.out 3; have y0 : v10.cell? ⟨w.heap.size + 1, 0, none⟩ = some (Value.int .i64 m.f0) := blk_cell K2.out 0; have y1 : v10.cell? ⟨w.heap.size + 1, 1, none⟩ = some (Value.slice B1 m.f1.length d1) := blk_cell K2.out 1; have y2 : v10.cell? ⟨w.heap.size + 1, 2, none⟩ = some (Value.string m.f2) := blk_cell K2.out 2; have y3 : v10.cell? ⟨w.heap.size + 1, 3, none⟩ = some (Value.slice B3 m.f3.length d3) := blk_cell K2.out 3))
          go_wp2_with (first | (go_at_call 6; refine (AWA.out _ HB.out).mono ?_; intro e v9 hh; obtain ⟨rfl, hb⟩ := hh; replace HB := Aside0.mk (HB.out.trans (hb.mono HB.out.size)); clear hb))
          go_ret
          exact ⟨rfl, HB.out⟩
        · have b0 : (n.f0 != 0) = true := by simp [hz]
          rw [← HINN.out hz]
          have hq : ((⟨(innerP n).toArray⟩ : ByteArray).toList != (⟨(innerP n).toArray⟩ : ByteArray).toList) = false := by simp
          clear hz HINN
          go_wp2_with (first | (go_at_call 10; refine (INN.out _ HB.out).mono ?_; intro e v4 hh; obtain ⟨rfl, hb⟩ := hh; replace HB := Aside0.mk (HB.out.trans (hb.mono HB.out.size)); replace K1 := Aside0.mk (blk_below K1.out hb); replace K2 := Aside0.mk (blk_below K2.out hb); clear hb; clear x0 x1 x2 x3 y0 y1 y2 y3; have x0 : v4.cell? ⟨w.heap.size, 0, none⟩ = some (Value.int .i64 n.f0) := blk_cell K1.out 0; have x1 : v4.cell? ⟨w.heap.size, 1, none⟩ = some (Value.slice A1 n.f1.length c1) := blk_cell K1.out 1; have x2 : v4.cell? ⟨w.heap.size, 2, none⟩ = some (Value.string n.f2) := blk_cell K1.out 2; have x3 : v4.cell? ⟨w.heap.size, 3, none⟩ = some (Value.slice A3 n.f3.length c3) := blk_cell K1.out 3; have y0 : v4.cell? ⟨w.heap.size + 1, 0, none⟩ = some (Value.int .i64 m.f0) := blk_cell K2.out 0; have y1 : v4.cell? ⟨w.heap.size + 1, 1, none⟩ = some (Value.slice B1 m.f1.length d1) := blk_cell K2.out 1; have y2 : v4.cell? ⟨w.heap.size + 1, 2, none⟩ = some (Value.string m.f2) := blk_cell K2.out 2; have y3 : v4.cell? ⟨w.heap.size + 1, 3, none⟩ = some (Value.slice B3 m.f3.length d3) := blk_cell K2.out 3))
          go_region_held3 (fun v => Below w.heap.size w v ∧ v.cell? ⟨w.heap.size, 0, none⟩ = some (Value.int .i64 n.f0) ∧ v.cell? ⟨w.heap.size, 1, none⟩ = some (Value.slice A1 n.f1.length c1) ∧ v.cell? ⟨w.heap.size, 2, none⟩ = some (Value.string n.f2) ∧ v.cell? ⟨w.heap.size, 3, none⟩ = some (Value.slice A3 n.f3.length c3) ∧ v.cell? ⟨w.heap.size + 1, 0, none⟩ = some (Value.int .i64 m.f0) ∧ v.cell? ⟨w.heap.size + 1, 1, none⟩ = some (Value.slice B1 m.f1.length d1) ∧ v.cell? ⟨w.heap.size + 1, 2, none⟩ = some (Value.string m.f2) ∧ v.cell? ⟨w.heap.size + 1, 3, none⟩ = some (Value.slice B3 m.f3.length d3)) (first | exact ⟨HB.out, x0, x1, x2, x3, y0, y1, y2, y3⟩ | exact ⟨HB.out.drew, x0, x1, x2, x3, y0, y1, y2, y3⟩) (first | (go_at_call 12; replace HB := Aside0.mk HB.out.drew; replace K1 := Aside0.mk (blk_drew K1.out); replace K2 := Aside0.mk (blk_drew K2.out); refine (NON.out _ HB.out).mono ?_; intro e v5 hh; obtain ⟨rfl, hb⟩ := hh; clear NON; replace HB := Aside0.mk (HB.out.trans (hb.mono HB.out.size)); replace K1 := Aside0.mk (blk_below K1.out hb); replace K2 := Aside0.mk (blk_below K2.out hb); clear hb; clear x0 x1 x2 x3 y0 y1 y2 y3; have x0 : v5.cell? ⟨w.heap.size, 0, none⟩ = some (Value.int .i64 n.f0) := blk_cell K1.out 0; have x1 : v5.cell? ⟨w.heap.size, 1, none⟩ = some (Value.slice A1 n.f1.length c1) := blk_cell K1.out 1; have x2 : v5.cell? ⟨w.heap.size, 2, none⟩ = some (Value.string n.f2) := blk_cell K1.out 2; have x3 : v5.cell? ⟨w.heap.size, 3, none⟩ = some (Value.slice A3 n.f3.length c3) := blk_cell K1.out 3; have y0 : v5.cell? ⟨w.heap.size + 1, 0, none⟩ = some (Value.int .i64 m.f0) := blk_cell K2.out 0; have y1 : v5.cell? ⟨w.heap.size + 1, 1, none⟩ = some (Value.slice B1 m.f1.length d1) := blk_cell K2.out 1; have y2 : v5.cell? ⟨w.heap.size + 1, 2, none⟩ = some (Value.string m.f2) := blk_cell K2.out 2; have y3 : v5.cell? ⟨w.heap.size + 1, 3, none⟩ = some (Value.slice B3 m.f3.length d3) := blk_cell K2.out 3) | (go_at_call 12; refine (NOM.out _ HB.out).mono ?_; intro e v6 hh; obtain ⟨rfl, hb⟩ := hh; clear NOM; replace HB := Aside0.mk (HB.out.trans (hb.mono HB.out.size)); replace K1 := Aside0.mk (blk_below K1.out hb); replace K2 := Aside0.mk (blk_below K2.out hb); clear hb; clear x0 x1 x2 x3 y0 y1 y2 y3; have x0 : v6.cell? ⟨w.heap.size, 0, none⟩ = some (Value.int .i64 n.f0) := blk_cell K1.out 0; have x1 : v6.cell? ⟨w.heap.size, 1, none⟩ = some (Value.slice A1 n.f1.length c1) := blk_cell K1.out 1; have x2 : v6.cell? ⟨w.heap.size, 2, none⟩ = some (Value.string n.f2) := blk_cell K1.out 2; have x3 : v6.cell? ⟨w.heap.size, 3, none⟩ = some (Value.slice A3 n.f3.length c3) := blk_cell K1.out 3; have y0 : v6.cell? ⟨w.heap.size + 1, 0, none⟩ = some (Value.int .i64 m.f0) := blk_cell K2.out 0; have y1 : v6.cell? ⟨w.heap.size + 1, 1, none⟩ = some (Value.slice B1 m.f1.length d1) := blk_cell K2.out 1; have y2 : v6.cell? ⟨w.heap.size + 1, 2, none⟩ = some (Value.string m.f2) := blk_cell K2.out 2; have y3 : v6.cell? ⟨w.heap.size + 1, 3, none⟩ = some (Value.slice B3 m.f3.length d3) := blk_cell K2.out 3) | (go_at_call 10; refine (INN.out _ HB.out).mono ?_; intro e v7 hh; obtain ⟨rfl, hb⟩ := hh; clear INN; replace HB := Aside0.mk (HB.out.trans (hb.mono HB.out.size)); replace K1 := Aside0.mk (blk_below K1.out hb); replace K2 := Aside0.mk (blk_below K2.out hb); clear hb; clear x0 x1 x2 x3 y0 y1 y2 y3; have x0 : v7.cell? ⟨w.heap.size, 0, none⟩ = some (Value.int .i64 n.f0) := blk_cell K1.out 0; have x1 : v7.cell? ⟨w.heap.size, 1, none⟩ = some (Value.slice A1 n.f1.length c1) := blk_cell K1.out 1; have x2 : v7.cell? ⟨w.heap.size, 2, none⟩ = some (Value.string n.f2) := blk_cell K1.out 2; have x3 : v7.cell? ⟨w.heap.size, 3, none⟩ = some (Value.slice A3 n.f3.length c3) := blk_cell K1.out 3; have y0 : v7.cell? ⟨w.heap.size + 1, 0, none⟩ = some (Value.int .i64 m.f0) := blk_cell K2.out 0; have y1 : v7.cell? ⟨w.heap.size + 1, 1, none⟩ = some (Value.slice B1 m.f1.length d1) := blk_cell K2.out 1; have y2 : v7.cell? ⟨w.heap.size + 1, 2, none⟩ = some (Value.string m.f2) := blk_cell K2.out 2; have y3 : v7.cell? ⟨w.heap.size + 1, 3, none⟩ = some (Value.slice B3 m.f3.length d3) := blk_cell K2.out 3) | (go_at_call 10; refine (INM.out _ HB.out).mono ?_; intro e v8 hh; obtain ⟨rfl, hb⟩ := hh; clear INM; replace HB := Aside0.mk (HB.out.trans (hb.mono HB.out.size)); replace K1 := Aside0.mk (blk_below K1.out hb); replace K2 := Aside0.mk (blk_below K2.out hb); clear hb; clear x0 x1 x2 x3 y0 y1 y2 y3; have x0 : v8.cell? ⟨w.heap.size, 0, none⟩ = some (Value.int .i64 n.f0) := blk_cell K1.out 0; have x1 : v8.cell? ⟨w.heap.size, 1, none⟩ = some (Value.slice A1 n.f1.length c1) := blk_cell K1.out 1; have x2 : v8.cell? ⟨w.heap.size, 2, none⟩ = some (Value.string n.f2) := blk_cell K1.out 2; have x3 : v8.cell? ⟨w.heap.size, 3, none⟩ = some (Value.slice A3 n.f3.length c3) := blk_cell K1.out 3; have y0 : v8.cell? ⟨w.heap.size + 1, 0, none⟩ = some (Value.int .i64 m.f0) := blk_cell K2.out 0; have y1 : v8.cell? ⟨w.heap.size + 1, 1, none⟩ = some (Value.slice B1 m.f1.length d1) := blk_cell K2.out 1; have y2 : v8.cell? ⟨w.heap.size + 1, 2, none⟩ = some (Value.string m.f2) := blk_cell K2.out 2; have y3 : v8.cell? ⟨w.heap.size + 1, 3, none⟩ = some (Value.slice B3 m.f3.length d3) := blk_cell K2.out 3) | (go_at_call 14; refine (SAM.out _ HB.out).mono ?_; intro e v10 hh; obtain ⟨rfl, hb⟩ := hh; clear SAM; replace HB := Aside0.mk (HB.out.trans (hb.mono HB.out.size)); replace K1 := Aside0.mk (blk_below K1.out hb); replace K2 := Aside0.mk (blk_below K2.out hb); clear hb; clear x0 x1 x2 x3 y0 y1 y2 y3; have x0 : v10.cell? ⟨w.heap.size, 0, none⟩ = some (Value.int .i64 n.f0) := blk_cell K1.out 0; have x1 : v10.cell? ⟨w.heap.size, 1, none⟩ = some (Value.slice A1 n.f1.length c1) := blk_cell K1.out 1; have x2 : v10.cell? ⟨w.heap.size, 2, none⟩ = some (Value.string n.f2) := blk_cell K1.out 2; have x3 : v10.cell? ⟨w.heap.size, 3, none⟩ = some (Value.slice A3 n.f3.length c3) := blk_cell K1.out 3; have y0 : v10.cell? ⟨w.heap.size + 1, 0, none⟩ = some (Value.int .i64 m.f0) := blk_cell K2.out 0; have y1 : v10.cell? ⟨w.heap.size + 1, 1, none⟩ = some (Value.slice B1 m.f1.length d1) := blk_cell K2.out 1; have y2 : v10.cell? ⟨w.heap.size + 1, 2, none⟩ = some (Value.string m.f2) := blk_cell K2.out 2; have y3 : v10.cell? ⟨w.heap.size + 1, 3, none⟩ = some (Value.slice B3 m.f3.length d3) := blk_cell K2.out 3))
          go_wp2_with (first | (go_at_call 6; refine (AWA.out _ HB.out).mono ?_; intro e v9 hh; obtain ⟨rfl, hb⟩ := hh; replace HB := Aside0.mk (HB.out.trans (hb.mono HB.out.size)); clear hb))
          go_ret
          exact ⟨rfl, HB.out⟩
end Go.Proofs.YtbbikcmkcgoamaaDoor.Pp
