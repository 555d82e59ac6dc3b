/- Joined by merge.py of this session: words, walks and plain laws of this claim. -/
import Derived.Test.YtbbikcmkcgoamaaDoorPtsM11
import Derived.Test.YtbbikcmkcgoamaaDoorPtsM12
import Derived.Test.YtbbikcmkcgoamaaDoorPtsM9
import Derived.Test.YtbbikcmkcgoamaaDoorPtsM5
/-
  (*looker).node and (*looker).kids for every tree.
-/
namespace Go.Proofs.YtbbikcmkcgoamaaDoor.Pp
open Go.RowKit Go.Proofs.YtbbikcmkcgoamaaDoorW.PrintWords Go.Proofs.YtbbikcmkcgoamaaDoorW.PrintLast Go.Proofs.YtbbikcmkcgoamaaDoorW.PrintMore Go.Proofs.YtbbikcmkcgoamaaDoor.My
set_option linter.unusedVariables false
set_option linter.unusedSimpArgs false

theorem lookNode_calls (n : S25) (hin : LookC 23 (lookK n.f3 false) n) : LookC 33 (lookN n) n := by
  intro w0 w b A1 c1 A3 c3 d box line li c h1 l1 h3 l3 hB hT hsz hb hblk hc hd
  by_cases hlow : 2000 < c + 1 ∨ 40 < d ∨ tclass n.f0 = 0 ∨ tclass n.f0 = 1 ∨ tclass n.f0 = 5
  · exact lookNode_low n w0 w b A1 c1 A3 c3 d box line li c h1 l1 h3 l3 hB hT hsz hb hblk hc hd hlow
  · have hr := tclass_le n.f0
    have hc1 : c + 1 ≤ 2000 := by omega
    have hd1 : d ≤ 40 := by omega
    by_cases k4 : tclass n.f0 = 4
    · exact lookNode_four n hin w0 w b A1 c1 A3 c3 d box line li c h1 l1 h3 l3 hB hT hsz hb hblk hc hd hc1 hd1 k4
    · by_cases k3 : tclass n.f0 = 3
      · have h7 : n.f0 ≠ 7 := by intro e; rw [e] at k3; exact absurd k3 (by decide)
        have h8 : n.f0 ≠ 8 := by intro e; rw [e] at k3; exact absurd k3 (by decide)
        cases hl : line
        · by_cases h9 : n.f0 = 9
          · cases hi : li
            · exact lookNode_3_b n hin w0 w b A1 c1 A3 c3 d box false false c h1 l1 h3 l3 hB hT hsz hb hblk hc hd hc1 hd1 k3 rfl h9 rfl
            · exact lookNode_3_a n hin w0 w b A1 c1 A3 c3 d box false true c h1 l1 h3 l3 hB hT hsz hb hblk hc hd hc1 hd1 k3 rfl h9 rfl
          · cases hi : li
            · exact lookNode_3_c n hin w0 w b A1 c1 A3 c3 d box false false c h1 l1 h3 l3 hB hT hsz hb hblk hc hd hc1 hd1 k3 rfl h9 rfl
            · exact lookNode_3_d n hin w0 w b A1 c1 A3 c3 d box false true c h1 l1 h3 l3 hB hT hsz hb hblk hc hd hc1 hd1 k3 rfl h9 h7 h8 rfl
        · exact lookNode_3_line n hin w0 w b A1 c1 A3 c3 d box true li c h1 l1 h3 l3 hB hT hsz hb hblk hc hd hc1 hd1 k3 rfl
      · have k2 : tclass n.f0 = 2 := by omega
        have h9 : n.f0 ≠ 9 := by intro e; rw [e] at k2; exact absurd k2 (by decide)
        cases hl : line
        · cases hi : li
          · exact lookNode_2_a n hin w0 w b A1 c1 A3 c3 d box false false c h1 l1 h3 l3 hB hT hsz hb hblk hc hd hc1 hd1 k2 rfl h9 rfl
          · by_cases h7 : n.f0 = 7
            · exact lookNode_2_b n hin w0 w b A1 c1 A3 c3 d box false true c h1 l1 h3 l3 hB hT hsz hb hblk hc hd hc1 hd1 k2 rfl h9 h7 rfl
            · by_cases h8 : n.f0 = 8
              · exact lookNode_2_c n hin w0 w b A1 c1 A3 c3 d box false true c h1 l1 h3 l3 hB hT hsz hb hblk hc hd hc1 hd1 k2 rfl h9 h7 h8 rfl
              · exact lookNode_2_d n hin w0 w b A1 c1 A3 c3 d box false true c h1 l1 h3 l3 hB hT hsz hb hblk hc hd hc1 hd1 k2 rfl h9 h7 h8 rfl
        · exact lookNode_2_line n hin w0 w b A1 c1 A3 c3 d box true li c h1 l1 h3 l3 hB hT hsz hb hblk hc hd hc1 hd1 k2 rfl
theorem look_all : ∀ (N : Nat) (n : S25), SizeOf.sizeOf n ≤ N → LookC 33 (lookN n) n := by
  intro N
  induction N with
  | zero => intro n h; cases n; simp at h
  | succ N ih =>
    intro n h
    refine lookNode_calls n (kids_calls n (fun k hk => ih k ?_))
    have h1 := List.sizeOf_lt_of_mem hk
    have h2 : SizeOf.sizeOf n = 1 + SizeOf.sizeOf n.f0 + SizeOf.sizeOf n.f1 + SizeOf.sizeOf n.f2 + SizeOf.sizeOf n.f3 := by cases n; simp
    omega
theorem lookKids_ok (n : S25) : LookC 23 (lookK n.f3 false) n := kids_calls n (fun k _ => look_all _ k (Nat.le_refl _))
end Go.Proofs.YtbbikcmkcgoamaaDoor.Pp

/-
  print.Outer and print.Inner, in the printed functions' form: the text of a plain tree's markup.
-/
namespace Go.Proofs.YtbbikcmkcgoamaaDoor.Pp
open Go.RowKit Go.Proofs.YtbbikcmkcgoamaaDoorW.PrintWords Go.Proofs.YtbbikcmkcgoamaaDoorW.PrintLast Go.Proofs.YtbbikcmkcgoamaaDoorW.PrintMore Go.Proofs.YtbbikcmkcgoamaaDoor.My
set_option linter.unusedVariables false
set_option linter.unusedSimpArgs false

theorem node_all : ∀ (N : Nat) (n : S25), SizeOf.sizeOf n ≤ N → MethC 17 (nodeP n) n := by
  intro N
  induction N with
  | zero => intro n h; cases n; simp at h
  | succ N ih =>
    intro n h
    refine node_calls n (inner_calls n (fun k hk => ih k ?_))
    have h1 := List.sizeOf_lt_of_mem hk
    have h2 : SizeOf.sizeOf n = 1 + SizeOf.sizeOf n.f0 + SizeOf.sizeOf n.f1 + SizeOf.sizeOf n.f2 + SizeOf.sizeOf n.f3 := by cases n; simp
    omega
theorem node_ok (n : S25) : MethC 17 (nodeP n) n := node_all _ n (Nat.le_refl _)
theorem inner_ok (n : S25) : MethC 22 (innerP n) n := inner_calls n (fun k _ => node_ok k)

def outText (l : List UInt8) : Option ByteArray := if l.length ≤ 70368744177664 then some ⟨l.toArray⟩ else none
def print_Outer.f (a0_0 : Int) (l0_1 : List S47) (a0_2 : ByteArray) (l0_3 : List S25) : Option ByteArray := outText (nodeP ⟨a0_0, l0_1, a0_2, l0_3⟩)
def print_Inner.f (a0_0 : Int) (l0_1 : List S47) (a0_2 : ByteArray) (l0_3 : List S25) : Option ByteArray := outText (innerP ⟨a0_0, l0_1, a0_2, l0_3⟩)

theorem fresh_isb {w W : World} (b : Nat) (hb : W.heap[b]? = some (.cells #[.pointer none, .slice none 0 0] Bld.PT (0, 0))) (hB : w.heap.size ≤ b) : Lib.IsBuilder Bld.PT 5 w.heap.size b (Lib.byteCells []) W :=
  .inl ⟨hB, .slice none 0 0, hb, World.ownsRow_nil _ _ _ _, by simp [Value.ownBlock]⟩

set_option maxHeartbeats 4000000 in
set_option maxRecDepth 100000 in
theorem print_Outer.calls (a0_0 : Int) (A0_1 : Option Addr) (c0_1 : Nat) (l0_1 : List S47) (a0_2 : ByteArray) (A0_3 : Option Addr) (c0_3 : Nat) (l0_3 : List S25) (r : ByteArray) (w : World) (hr0_1 : Kd.C k47 w A0_1 l0_1.length l0_1) (hc0_1 : l0_1.length ≤ c0_1) (hr0_3 : Kd.C k25 w A0_3 l0_3.length l0_3) (hc0_3 : l0_3.length ≤ c0_3) (h : print_Outer.f a0_0 l0_1 a0_2 l0_3 = some r) :
    Calls Tryd.prog 8 #[.agg #[.int .i64 a0_0, .slice A0_1 l0_1.length c0_1, .string a0_2, .slice A0_3 l0_3.length c0_3]] w fun e w' => e = .returned (.string r) ∧ Below w.heap.size w w' := by
  unfold print_Outer.f outText at h
  split at h
  · rename_i hl
    obtain rfl := Option.some.inj h
    have HM := Aside0.mk (fun (v : World) (b : Nat) => node_ok ⟨a0_0, l0_1, a0_2, l0_3⟩ w v b [] A0_1 c0_1 A0_3 c0_3 hr0_1 hc0_1 hr0_3 hc0_3)
    have HL := Aside0.mk (show ([] : List UInt8).length + (nodeP ⟨a0_0, l0_1, a0_2, l0_3⟩).length ≤ 70368744177664 by simpa using hl)
    clear hl h hr0_1 hc0_1 hr0_3 hc0_3
    generalize nodeP ⟨a0_0, l0_1, a0_2, l0_3⟩ = T at *
    unfold nodeV at HM
    have hb1 := (Below.refl w.heap.size w).alloc (Nat.le_refl _) (.cells #[.int .i64 a0_0, .slice A0_1 l0_1.length c0_1, .string a0_2, .slice A0_3 l0_3.length c0_3] 25)
    have hb2 := hb1.alloc hb1.size (.cells #[.pointer none, .slice none 0 0] 40)
    have HB2 := Aside0.mk hb2
    have HI := Aside0.mk (fresh_isb (w := w) (w.heap.size + 1) (heap_alloc2_new w (.cells #[.int .i64 a0_0, .slice A0_1 l0_1.length c0_1, .string a0_2, .slice A0_3 l0_3.length c0_3] 25) (.cells #[.pointer none, .slice none 0 0] 40)) (Nat.le_succ _))
    clear hb1 hb2
    go_enter Tryd.func8, Tryd.ntmps8
    go_wp2_with fail
    refine (HM.out _ (w.heap.size + 1) HB2.out HI.out HL.out).mono ?_
    intro e v2 hh
    obtain ⟨rfl, h1, h2, h3⟩ := hh
    have HW := Aside0.mk h1
    have HB3 := Aside0.mk (HB2.out.trans h2)
    clear h1 h2 h3
    rw [List.nil_append] at HW
    go_wp2_with (go_at_call 18; refine (Bld.String_any w.heap.size (w.heap.size + 1) T v2 HW.out HB3.out.size).mono ?_)
    intro e v3 hh
    obtain ⟨rfl, h1⟩ := hh
    have HB4 := Aside0.mk (HB3.out.trans h1)
    clear h1
    go_wp2
    go_ret
    exact ⟨rfl, HB4.out⟩
  · exact absurd h (by simp)
set_option maxHeartbeats 4000000 in
set_option maxRecDepth 100000 in
theorem print_Inner.calls (a0_0 : Int) (A0_1 : Option Addr) (c0_1 : Nat) (l0_1 : List S47) (a0_2 : ByteArray) (A0_3 : Option Addr) (c0_3 : Nat) (l0_3 : List S25) (r : ByteArray) (w : World) (hr0_1 : Kd.C k47 w A0_1 l0_1.length l0_1) (hc0_1 : l0_1.length ≤ c0_1) (hr0_3 : Kd.C k25 w A0_3 l0_3.length l0_3) (hc0_3 : l0_3.length ≤ c0_3) (h : print_Inner.f a0_0 l0_1 a0_2 l0_3 = some r) :
    Calls Tryd.prog 10 #[.agg #[.int .i64 a0_0, .slice A0_1 l0_1.length c0_1, .string a0_2, .slice A0_3 l0_3.length c0_3]] w fun e w' => e = .returned (.string r) ∧ Below w.heap.size w w' := by
  unfold print_Inner.f outText at h
  split at h
  · rename_i hl
    obtain rfl := Option.some.inj h
    have HM := Aside0.mk (fun (v : World) (b : Nat) => inner_ok ⟨a0_0, l0_1, a0_2, l0_3⟩ w v b [] A0_1 c0_1 A0_3 c0_3 hr0_1 hc0_1 hr0_3 hc0_3)
    have HL := Aside0.mk (show ([] : List UInt8).length + (innerP ⟨a0_0, l0_1, a0_2, l0_3⟩).length ≤ 70368744177664 by simpa using hl)
    clear hl h hr0_1 hc0_1 hr0_3 hc0_3
    generalize innerP ⟨a0_0, l0_1, a0_2, l0_3⟩ = T at *
    unfold nodeV at HM
    have hb1 := (Below.refl w.heap.size w).alloc (Nat.le_refl _) (.cells #[.int .i64 a0_0, .slice A0_1 l0_1.length c0_1, .string a0_2, .slice A0_3 l0_3.length c0_3] 25)
    have hb2 := hb1.alloc hb1.size (.cells #[.pointer none, .slice none 0 0] 40)
    have HB2 := Aside0.mk hb2
    have HI := Aside0.mk (fresh_isb (w := w) (w.heap.size + 1) (heap_alloc2_new w (.cells #[.int .i64 a0_0, .slice A0_1 l0_1.length c0_1, .string a0_2, .slice A0_3 l0_3.length c0_3] 25) (.cells #[.pointer none, .slice none 0 0] 40)) (Nat.le_succ _))
    clear hb1 hb2
    go_enter Tryd.func10, Tryd.ntmps10
    go_wp2_with fail
    refine (HM.out _ (w.heap.size + 1) HB2.out HI.out HL.out).mono ?_
    intro e v2 hh
    obtain ⟨rfl, h1, h2, h3⟩ := hh
    have HW := Aside0.mk h1
    have HB3 := Aside0.mk (HB2.out.trans h2)
    clear h1 h2 h3
    rw [List.nil_append] at HW
    go_wp2_with (go_at_call 18; refine (Bld.String_any w.heap.size (w.heap.size + 1) T v2 HW.out HB3.out.size).mono ?_)
    intro e v3 hh
    obtain ⟨rfl, h1⟩ := hh
    have HB4 := Aside0.mk (HB3.out.trans h1)
    clear h1
    go_wp2
    go_ret
    exact ⟨rfl, HB4.out⟩
  · exact absurd h (by simp)
end Go.Proofs.YtbbikcmkcgoamaaDoor.Pp

/-
  print.Normal in the printed functions' form: the plain test of a tree.
-/
namespace Go.Proofs.YtbbikcmkcgoamaaDoor.Pp
open Go.RowKit Go.Proofs.YtbbikcmkcgoamaaDoorW.PrintWords Go.Proofs.YtbbikcmkcgoamaaDoorW.PrintLast Go.Proofs.YtbbikcmkcgoamaaDoorW.PrintMore Go.Proofs.YtbbikcmkcgoamaaDoor.My
set_option linter.unusedVariables false
set_option linter.unusedSimpArgs false

def normalP (n : S25) : Bool := (n.f0 == 1) && (decide (n.f1.length = 0) && (n.f2.toList.isEmpty && ((lookK n.f3 false 1 true false false 1).1 && decide ((innerP n).length ≤ 8192))))
def print_Normal.f (n : S25) : Option Bool := if tsz n ≤ 70368744177664 ∧ (innerP n).length ≤ 70368744177664 then some (normalP n) else none

set_option maxHeartbeats 8000000 in
set_option maxRecDepth 100000 in
theorem print_Normal.calls (n : S25) (A1 : Option Addr) (c1 : Nat) (A3 : Option Addr) (c3 : Nat) (r : Bool) (w : World) (h1 : Kd.C k47 w A1 n.f1.length n.f1) (l1 : n.f1.length ≤ c1) (h3 : Kd.C k25 w A3 n.f3.length n.f3) (l3 : n.f3.length ≤ c3) (hT : Tabs w) (h : print_Normal.f n = some r) :
    Calls Tryd.prog 12 #[.agg #[.int .i64 n.f0, .slice A1 n.f1.length c1, .string n.f2, .slice A3 n.f3.length c3]] w fun e w' => e = .returned (.bool r) ∧ Below w.heap.size w w' := by
  unfold print_Normal.f at h
  split at h
  · rename_i hsz
    obtain ⟨hs1, hs2⟩ := hsz
    obtain rfl := Option.some.inj h
    clear h
    obtain ⟨R, hR⟩ : ∃ R, R = normalP n := ⟨_, rfl⟩
    rw [← hR]
    unfold normalP at hR
    have q1 := h1.2.1
    have q3 := h3.2.1
    have PIN := Aside0.mk (show ∀ (v : World), Below w.heap.size w v → Calls Tryd.prog 10 #[.agg #[.int .i64 n.f0, .slice A1 n.f1.length c1, .string n.f2, .slice A3 n.f3.length c3]] v fun e w' => e = .returned (.string ⟨(innerP n).toArray⟩) ∧ Below v.heap.size v w' from fun v hb => print_Inner.calls n.f0 A1 c1 n.f1 n.f2 A3 c3 n.f3 _ v (Kd.C_below h1 hb) l1 (Kd.C_below h3 hb) l3 (by unfold print_Inner.f outText; exact if_pos hs2))
    have HIN := Aside0.mk (lookKids_ok n w ((w.alloc (.cells #[.int .i64 n.f0, .slice A1 n.f1.length c1, .string n.f2, .slice A3 n.f3.length c3] 25)).alloc (.cells #[.int .i64 ((1 : Nat) : Int)] 50)) (w.heap.size + 1) A1 c1 A3 c3 1 true false false 1 h1 l1 h3 l3 (bel2 w _ _) hT hs1 (Nat.le_succ _) (blk2_1 w _ _) (by decide) (by decide))
    unfold lookNodeV aroundV at HIN
    have HBR := Aside0.mk (bel2 w (.cells #[.int .i64 n.f0, .slice A1 n.f1.length c1, .string n.f2, .slice A3 n.f3.length c3] 25) (.cells #[.int .i64 ((1 : Nat) : Int)] 50))
    clear h1 l1 h3 l3 hT hs1 hs2
    by_cases a1 : n.f0 = 1
    · have b1 : (n.f0 == 1) = true := by simp [a1]
      rw [b1, Bool.true_and] at hR
      clear a1
      by_cases a2 : n.f1.length = 0
      · rw [decide_eq_true a2, Bool.true_and] at hR
        have b2 : (((n.f1.length : Nat) : Int) == 0) = true := by simpa using a2
        clear a2
        cases t1 : n.f2.toList.isEmpty
        · rw [t1, Bool.false_and] at hR
          subst hR
          have t2 : ¬ n.f2.toList = [] := by intro e; rw [e] at t1; cases t1
          clear t1
          go_enter Tryd.func12, Tryd.ntmps12
          go_wp2
          go_ret
          exact ⟨by simp, HBR.out⟩
        · rw [t1, Bool.true_and] at hR
          have t2 : n.f2.toList = [] := by simpa using t1
          clear t1
          generalize lookK n.f3 false 1 true false false 1 = k at *
          obtain ⟨k1, k2⟩ := k
          simp only at hR HIN
          cases k1
          · rw [Bool.false_and] at hR
            subst hR
            go_enter Tryd.func12, Tryd.ntmps12
            go_wp2_with (first | (go_at_call 23; refine (HIN.out).mono ?_; (first | (rintro e v2 ⟨rfl, h1⟩; have HL := Aside0.mk h1; clear h1) | (rintro e v2 rfl h1; have HL := Aside0.mk h1; clear h1)); have K1 := Aside0.mk (HL.out.blk (blk2_0 w _ _) (by omega)); have x0 : v2.cell? ⟨w.heap.size, 0, none⟩ = some (.int .i64 n.f0) := blk_cell K1.out 0; have x1 : v2.cell? ⟨w.heap.size, 1, none⟩ = some (.slice A1 n.f1.length c1) := blk_cell K1.out 1; have x2 : v2.cell? ⟨w.heap.size, 2, none⟩ = some (.string n.f2) := blk_cell K1.out 2; have x3 : v2.cell? ⟨w.heap.size, 3, none⟩ = some (.slice A3 n.f3.length c3) := blk_cell K1.out 3; have HB2 := Aside0.mk ((bel2 w _ _).trans HL.out.2.1)))
            go_ret
            exact ⟨by simp, HB2.out⟩
          · rw [Bool.true_and] at hR
            by_cases a3 : (innerP n).length ≤ 8192
            · rw [decide_eq_true a3] at hR
              subst hR
              have b3 : decide (((innerP n).length : Int) ≤ 8192) = true := by simp; omega
              have b4 : ((innerP n).length : Int) ≤ 8192 := by omega
              have b5 : ((⟨(innerP n).toArray⟩ : ByteArray)).size = (innerP n).length := by simp [ByteArray.size]
              clear a3
              go_enter Tryd.func12, Tryd.ntmps12
              go_wp2_with (first | (go_at_call 23; refine (HIN.out).mono ?_; (first | (rintro e v2 ⟨rfl, h1⟩; have HL := Aside0.mk h1; clear h1) | (rintro e v2 rfl h1; have HL := Aside0.mk h1; clear h1)); have K1 := Aside0.mk (HL.out.blk (blk2_0 w _ _) (by omega)); have x0 : v2.cell? ⟨w.heap.size, 0, none⟩ = some (.int .i64 n.f0) := blk_cell K1.out 0; have x1 : v2.cell? ⟨w.heap.size, 1, none⟩ = some (.slice A1 n.f1.length c1) := blk_cell K1.out 1; have x2 : v2.cell? ⟨w.heap.size, 2, none⟩ = some (.string n.f2) := blk_cell K1.out 2; have x3 : v2.cell? ⟨w.heap.size, 3, none⟩ = some (.slice A3 n.f3.length c3) := blk_cell K1.out 3; have HB2 := Aside0.mk ((bel2 w _ _).trans HL.out.2.1)) | (go_at_call 10; refine (PIN.out _ HB2.out).mono ?_; intro e v3 hh; obtain ⟨rfl, hb⟩ := hh; have HB3 := Aside0.mk (HB2.out.trans (hb.mono HB2.out.size)); clear hb))
              go_ret
              exact ⟨by simp, HB3.out⟩
            · rw [decide_eq_false a3] at hR
              subst hR
              have b3 : decide (((innerP n).length : Int) ≤ 8192) = false := by simp; omega
              have b4 : ¬ ((innerP n).length : Int) ≤ 8192 := by omega
              have b5 : ((⟨(innerP n).toArray⟩ : ByteArray)).size = (innerP n).length := by simp [ByteArray.size]
              clear a3
              go_enter Tryd.func12, Tryd.ntmps12
              go_wp2_with (first | (go_at_call 23; refine (HIN.out).mono ?_; (first | (rintro e v2 ⟨rfl, h1⟩; have HL := Aside0.mk h1; clear h1) | (rintro e v2 rfl h1; have HL := Aside0.mk h1; clear h1)); have K1 := Aside0.mk (HL.out.blk (blk2_0 w _ _) (by omega)); have x0 : v2.cell? ⟨w.heap.size, 0, none⟩ = some (.int .i64 n.f0) := blk_cell K1.out 0; have x1 : v2.cell? ⟨w.heap.size, 1, none⟩ = some (.slice A1 n.f1.length c1) := blk_cell K1.out 1; have x2 : v2.cell? ⟨w.heap.size, 2, none⟩ = some (.string n.f2) := blk_cell K1.out 2; have x3 : v2.cell? ⟨w.heap.size, 3, none⟩ = some (.slice A3 n.f3.length c3) := blk_cell K1.out 3; have HB2 := Aside0.mk ((bel2 w _ _).trans HL.out.2.1)) | (go_at_call 10; refine (PIN.out _ HB2.out).mono ?_; intro e v3 hh; obtain ⟨rfl, hb⟩ := hh; have HB3 := Aside0.mk (HB2.out.trans (hb.mono HB2.out.size)); clear hb))
              go_ret
              exact ⟨by simp, HB3.out⟩
      · rw [decide_eq_false a2, Bool.false_and] at hR
        subst hR
        have b2 : (((n.f1.length : Nat) : Int) == 0) = false := by simpa using a2
        clear a2
        go_enter Tryd.func12, Tryd.ntmps12
        go_wp2
        go_ret
        exact ⟨by simp, HBR.out⟩
    · have b1 : (n.f0 == 1) = false := by simp [a1]
      rw [b1, Bool.false_and] at hR
      subst hR
      clear a1
      go_enter Tryd.func12, Tryd.ntmps12
      go_wp2
      go_ret
      exact ⟨by simp, HBR.out⟩
  · exact absurd h (by simp)
end Go.Proofs.YtbbikcmkcgoamaaDoor.Pp

/-
  The chapter's examples, as closed facts.
-/
namespace Go.Proofs.YtbbikcmkcgoamaaDoor.Pp
open Go.RowKit Go.Proofs.YtbbikcmkcgoamaaDoorW.PrintWords Go.Proofs.YtbbikcmkcgoamaaDoorW.PrintLast Go.Proofs.YtbbikcmkcgoamaaDoorW.PrintMore Go.Proofs.YtbbikcmkcgoamaaDoor.My
set_option linter.unusedVariables false
set_option linter.unusedSimpArgs false

def exN : S25 := ⟨1, [], ⟨#[]⟩, [⟨2, [], ⟨#[]⟩, [⟨11, [], ⟨#[]⟩, [⟨0, [], ⟨#[120, 60, 121]⟩, []⟩]⟩, ⟨16, [], ⟨#[]⟩, []⟩]⟩]⟩
def twoN : S25 := ⟨1, [], ⟨#[]⟩, [⟨0, [], ⟨#[97]⟩, []⟩, ⟨0, [], ⟨#[98]⟩, []⟩]⟩
def exB : List UInt8 := [60, 112, 62, 60, 98, 62, 120, 38, 108, 116, 59, 121, 60, 47, 98, 62, 60, 98, 114, 62, 60, 47, 112, 62]
theorem ex_inner : innerP exN = exB := by decide +kernel
theorem ex_normal : normalP exN = true := by decide +kernel
theorem two_normal : normalP twoN = false := by decide +kernel
theorem ex_tsz : tsz exN ≤ 70368744177664 := by simp [tsz, tszK, exN, ByteArray.size]
theorem two_tsz : tsz twoN ≤ 70368744177664 := by simp [tsz, tszK, twoN, ByteArray.size]
theorem two_len : (innerP twoN).length ≤ 70368744177664 := by decide +kernel
end Go.Proofs.YtbbikcmkcgoamaaDoor.Pp

namespace Go.Proofs.YtbbikcmkcgoamaaDoor.Pp
open Go.RowKit Go.Proofs.YtbbikcmkcgoamaaDoorW.PrintWords Go.Proofs.YtbbikcmkcgoamaaDoorW.PrintLast Go.Proofs.YtbbikcmkcgoamaaDoorW.PrintMore
attribute [local go_sem] max2_int min2_int max_two min_two max_three min_three max_four min_four   -- for this text's walks alone
set_option linter.unusedVariables false
set_option linter.unusedSimpArgs false

theorem k47_mkF (W : World) (ok : Nat → Prop) (x : S47) : Kd.FK k47 W ok x [.string x.f0, .string x.f1] := fun W2 _ => k47_mk W2 x
theorem k25_openF {W : World} {ok : Nat → Prop} {x : S25} {cs : List Value} (h : Kd.FK k25 W ok x cs) : ∃ A1 c1 A3 c3, cs = [.int .i64 x.f0, .slice A1 x.f1.length c1, .string x.f2, .slice A3 x.f3.length c3] ∧ x.f1.length ≤ c1 ∧ Kd.F k47 W ok A1 x.f1.length x.f1 ∧ x.f3.length ≤ c3 ∧ Kd.F k25 W ok A3 x.f3.length x.f3 := by
  obtain ⟨A1, c1, A3, c3, rfl, l1, _, l3, _⟩ := k25_open (Kd.FK_now h)
  exact ⟨A1, c1, A3, c3, rfl, l1, (fun W' hW => by obtain ⟨A1_, c1_, A3_, c3_, he, l1_, g1_, l3_, g3_⟩ := k25_open (h W' hW); injection (Option.some.inj (show some (Value.slice A1 x.f1.length c1) = some (Value.slice A1_ x.f1.length c1_) from congrArg (fun l => l[1]?) he)) with ha_ _ _; rw [ha_]; exact g1_), l3, (fun W' hW => by obtain ⟨A1_, c1_, A3_, c3_, he, l1_, g1_, l3_, g3_⟩ := k25_open (h W' hW); injection (Option.some.inj (show some (Value.slice A3 x.f3.length c3) = some (Value.slice A3_ x.f3.length c3_) from congrArg (fun l => l[3]?) he)) with ha_ _ _; rw [ha_]; exact g3_)⟩
theorem k25_mkF (W : World) (ok : Nat → Prop) (x : S25) {A1 : Option Addr} {c1 : Nat} (l1 : x.f1.length ≤ c1) (g1 : Kd.F k47 W ok A1 x.f1.length x.f1) {A3 : Option Addr} {c3 : Nat} (l3 : x.f3.length ≤ c3) (g3 : Kd.F k25 W ok A3 x.f3.length x.f3) : Kd.FK k25 W ok x [.int .i64 x.f0, .slice A1 x.f1.length c1, .string x.f2, .slice A3 x.f3.length c3] := fun W2 hW => k25_mk W2 x l1 (g1 W2 hW) l3 (g3 W2 hW)
/-! ### quillworklaw16_example: function 16 -/
def quillworklaw16_example.f  : Option (Int × (List (S47)) × ByteArray × (List (S25))) := some (1, ([] : List (S47)), (⟨#[]⟩ : ByteArray), (([(⟨2, ([] : List (S47)), (⟨#[]⟩ : ByteArray), (([(⟨11, ([] : List (S47)), (⟨#[]⟩ : ByteArray), (([(⟨0, ([] : List (S47)), (⟨#[120, 60, 121]⟩ : ByteArray), ([] : List (S25))⟩ : S25)] : List (S25)))⟩ : S25), (⟨16, ([] : List (S47)), (⟨#[]⟩ : ByteArray), ([] : List (S25))⟩ : S25)] : List (S25)))⟩ : S25)] : List (S25))))
set_option maxHeartbeats 8000000 in
set_option maxRecDepth 100000 in
theorem quillworklaw16_example.calls  (r1 : Int) (r2 : List (S47)) (r3 : ByteArray) (r4 : List (S25)) (w : World) (h : quillworklaw16_example.f  = some (r1, r2, r3, r4)) :
    Calls Tryd.prog 16 #[] w fun e w' => ∃ v1_ v3_ : Value, e = .returned (.agg #[.int .i64 r1, v1_, .string r3, v3_]) ∧ Kd.R k47 47 w' w.heap.size (fun k_ => (w.heap.size ≤ k_)) v1_ r2 ∧ Kd.N k25 25 w' w.heap.size (fun k_ => (w.heap.size ≤ k_) ∧ some k_ ≠ (v1_ : Value).ownBlock) v3_ r4 ∧ Below w.heap.size w w' := by
  have hu25 := Tryd.underlying25
  have HB := Aside0.mk (Below.refl w.heap.size w)
  have H : (some (1, ([] : List (S47)), (⟨#[]⟩ : ByteArray), (([(⟨2, ([] : List (S47)), (⟨#[]⟩ : ByteArray), (([(⟨11, ([] : List (S47)), (⟨#[]⟩ : ByteArray), (([(⟨0, ([] : List (S47)), (⟨#[120, 60, 121]⟩ : ByteArray), ([] : List (S25))⟩ : S25)] : List (S25)))⟩ : S25), (⟨16, ([] : List (S47)), (⟨#[]⟩ : ByteArray), ([] : List (S25))⟩ : S25)] : List (S25)))⟩ : S25)] : List (S25))))) = some (r1, r2, r3, r4) := h
  clear h
  obtain ⟨y136, hy136⟩ : ∃ y_ : List (S25), y_ = (([(⟨0, ([] : List (S47)), (⟨#[120, 60, 121]⟩ : ByteArray), ([] : List (S25))⟩ : S25)] : List (S25))) := ⟨_, rfl⟩
  replace H : (some (1, ([] : List (S47)), (⟨#[]⟩ : ByteArray), (([(⟨2, ([] : List (S47)), (⟨#[]⟩ : ByteArray), (([(⟨11, ([] : List (S47)), (⟨#[]⟩ : ByteArray), y136⟩ : S25), (⟨16, ([] : List (S47)), (⟨#[]⟩ : ByteArray), ([] : List (S25))⟩ : S25)] : List (S25)))⟩ : S25)] : List (S25))))) = some (r1, r2, r3, r4) := by first | (rw [hy136]; with_reducible exact H) | (have H2_ := (Option.bind_some _ _).symm.trans H; rw [hy136]; with_reducible exact H2_) | (have H2_ := (Option.bind_some _ _).symm.trans H; with_reducible exact H2_) | with_reducible exact H | (rw [hy136]; exact H) | exact H
  have Ny136 := Aside0.mk hy136
  clear hy136
  obtain ⟨y139, hy139⟩ : ∃ y_ : List (S25), y_ = (([(⟨11, ([] : List (S47)), (⟨#[]⟩ : ByteArray), y136⟩ : S25), (⟨16, ([] : List (S47)), (⟨#[]⟩ : ByteArray), ([] : List (S25))⟩ : S25)] : List (S25))) := ⟨_, rfl⟩
  replace H : (some (1, ([] : List (S47)), (⟨#[]⟩ : ByteArray), (([(⟨2, ([] : List (S47)), (⟨#[]⟩ : ByteArray), y139⟩ : S25)] : List (S25))))) = some (r1, r2, r3, r4) := by first | (rw [hy139]; with_reducible exact H) | (have H2_ := (Option.bind_some _ _).symm.trans H; rw [hy139]; with_reducible exact H2_) | (have H2_ := (Option.bind_some _ _).symm.trans H; with_reducible exact H2_) | with_reducible exact H | (rw [hy139]; exact H) | exact H
  have Ny139 := Aside0.mk hy139
  clear hy139
  obtain ⟨y142, hy142⟩ : ∃ y_ : List (S25), y_ = (([(⟨2, ([] : List (S47)), (⟨#[]⟩ : ByteArray), y139⟩ : S25)] : List (S25))) := ⟨_, rfl⟩
  replace H : (some (1, ([] : List (S47)), (⟨#[]⟩ : ByteArray), y142)) = some (r1, r2, r3, r4) := by first | (rw [hy142]; with_reducible exact H) | (have H2_ := (Option.bind_some _ _).symm.trans H; rw [hy142]; with_reducible exact H2_) | (have H2_ := (Option.bind_some _ _).symm.trans H; with_reducible exact H2_) | with_reducible exact H | (rw [hy142]; exact H) | exact H
  have Ny142 := Aside0.mk hy142
  clear hy142
  simp only [Option.some.injEq, Prod.mk.injEq] at H
  obtain ⟨rfl, rfl, rfl, rfl⟩ := H
  go_enter Tryd.func16, Tryd.ntmps16
  go_wp2_with (first | ((with_reducible refine gate_dst (N := 0) rfl ?_); refine box_event ?hg (N := 0) ?hd (cs := #[.int .i64 0, .slice none 0 0, .string (⟨#[]⟩ : ByteArray), .slice none 0 0]) (t := 25) ?hr ?_; (case hd => rfl); (case hg => rfl); (case hr => first | (go_simp; done) | (go_simp; rfl)); intro gb135 hg w1 hbox hb; have n0_ := Aside0.mk (below_step (by repeat (first | (with_reducible first | exact HB.out | apply below_alloc | apply pw_below_drewN | apply below_drew1) | exact HB.out)) hb); have n1_ := Aside0.mk (hbox); have n2_ := Aside0.mk ((by rw [hg]; exact (below_size (by repeat (first | (with_reducible first | exact HB.out | apply below_alloc | apply pw_below_drewN | apply below_drew1) | exact HB.out))) : w.heap.size ≤ gb135)); have n3_ := Aside0.mk ((by rw [hg]; exact (below_size (by repeat (first | (with_reducible first | exact HB.out | apply below_alloc | apply pw_below_drewN | apply below_drew1) | exact HB.out))) : w.heap.size ≤ gb135)); clear HB; have HB := n0_; have BK135 := n1_; have GW135 := n2_; have GE135 := n3_; clear n0_ n1_ n2_ n3_; clear hb hbox hg) | ((with_reducible refine gate_dst (N := 2) rfl ?_); refine Kd.N_lit k25 _ 25 ?hg (N' := 2) ?hd (xs := ([(⟨0, ([] : List (S47)), (⟨#[120, 60, 121]⟩ : ByteArray), ([] : List (S25))⟩ : S25)] : List (S25))) (inner := [.int .i64 0, .slice none 0 0, .string (⟨#[120, 60, 121]⟩ : ByteArray), .slice none 0 0]) (ok := (fun k_ => (w.heap.size ≤ k_) ∧ k_ ≠ gb135)) (okp := (fun k_ => (w.heap.size ≤ k_) ∧ k_ ≠ gb135)) ?hr ?hp (fun _ hk => hk) ((show ∀ k_, w1.heap.size ≤ k_ → (fun k_ => (w.heap.size ≤ k_) ∧ k_ ≠ gb135) k_ from fun k_ hk => ⟨(Nat.le_trans (below_size (by repeat (first | (with_reducible first | exact HB.out | apply below_alloc | apply pw_below_drewN | apply below_drew1 | refine below_set ?_ GE135.out) | exact HB.out))) hk), Kd.freshB (g := gb135) (o := .cells #[.int .i64 0, .slice none 0 0, .string (⟨#[]⟩ : ByteArray), .slice none 0 0] 25 (0, 0)) (by (with_reducible repeat (first | refine blk_drewN ?_ _ | refine blk_drew ?_ | refine blk_alloc ?_ _)); exact BK135.out) k_ hk⟩) _ (Nat.le_refl _)) (Below.refl _ _) (Nat.le_refl _) (by simp) ?_; (case hd => rfl); (case hg => rfl); (case hr => first | (go_simp; done) | (go_simp; rfl)); (case hp => exact (Reps.c4 (show Kd.FK k25 _ _ (⟨0, ([] : List (S47)), (⟨#[120, 60, 121]⟩ : ByteArray), ([] : List (S25))⟩ : S25) [.int .i64 0, .slice none 0 0, .string (⟨#[120, 60, 121]⟩ : ByteArray), .slice none 0 0] from (k25_mkF _ _ (⟨0, ([] : List (S47)), (⟨#[120, 60, 121]⟩ : ByteArray), ([] : List (S25))⟩ : S25) (Nat.le_refl _) (Kd.F_nil _ _ _) (Nat.le_refl _) (Kd.F_nil _ _ _))) (Reps.none _ _))); intro v137 w2 ho3 hb hg_ hnew_; clear hg_ hnew_; (first | rw [← Ny136.out] at ho3 | (simp only [Int.reduceToNat] at ho3; rw [← Ny136.out] at ho3)); have n0_ := Aside0.mk (Kd.N_lower ho3 (below_size (by repeat (first | (with_reducible first | exact HB.out | apply below_alloc | apply pw_below_drewN | apply below_drew1 | refine below_set ?_ GE135.out) | exact HB.out)))); have n1_ := Aside0.mk (blk_below (g := gb135) (o := .cells #[.int .i64 0, .slice none 0 0, .string (⟨#[]⟩ : ByteArray), .slice none 0 0] 25 (0, 0)) (by (with_reducible repeat (first | refine blk_drewN ?_ _ | refine blk_drew ?_ | refine blk_alloc ?_ _)); exact BK135.out) hb); have n2_ := Aside0.mk (below_step (by repeat (first | (with_reducible first | exact HB.out | apply below_alloc | apply pw_below_drewN | apply below_drew1 | refine below_set ?_ GE135.out) | exact HB.out)) hb); clear BK135; clear HB; have HO138 := n0_; have BK135 := n1_; have HB := n2_; clear n0_ n1_ n2_; clear hb ho3; obtain ⟨Ao4, co4, eo4⟩ := Kd.N_slice HO138.out; subst eo4) | ((with_reducible refine gate_dst (N := 5) rfl ?_); refine Kd.N_lit k25 _ 25 ?hg (N' := 5) ?hd (xs := ([(⟨11, ([] : List (S47)), (⟨#[]⟩ : ByteArray), y136⟩ : S25), (⟨16, ([] : List (S47)), (⟨#[]⟩ : ByteArray), ([] : List (S25))⟩ : S25)] : List (S25))) (inner := [.int .i64 11, .slice none 0 0, .string (⟨#[]⟩ : ByteArray), .slice Ao4 y136.length co4, .int .i64 16, .slice none 0 0, .string (⟨#[]⟩ : ByteArray), .slice none 0 0]) (ok := (fun k_ => (w.heap.size ≤ k_) ∧ k_ ≠ gb135)) (okp := (fun k_ => (w.heap.size ≤ k_) ∧ k_ ≠ gb135)) ?hr ?hp (fun _ hk => hk) ((show ∀ k_, w2.heap.size ≤ k_ → (fun k_ => (w.heap.size ≤ k_) ∧ k_ ≠ gb135) k_ from fun k_ hk => ⟨(Nat.le_trans (below_size (by repeat (first | (with_reducible first | exact HB.out | apply below_alloc | apply pw_below_drewN | apply below_drew1 | refine below_set ?_ GE135.out) | exact HB.out))) hk), Kd.freshB (g := gb135) (o := .cells #[.int .i64 0, .slice none 0 0, .string (⟨#[]⟩ : ByteArray), .slice none 0 0] 25 (0, 0)) (by (with_reducible repeat (first | refine blk_drewN ?_ _ | refine blk_drew ?_ | refine blk_alloc ?_ _)); exact BK135.out) k_ hk⟩) _ (Nat.le_refl _)) (Below.refl _ _) (Nat.le_refl _) (by simp) ?_; (case hd => rfl); (case hg => rfl); (case hr => first | (go_simp; done) | (go_simp; rfl)); (case hp => exact (Reps.c4 (show Kd.FK k25 _ _ (⟨11, ([] : List (S47)), (⟨#[]⟩ : ByteArray), y136⟩ : S25) [.int .i64 11, .slice none 0 0, .string (⟨#[]⟩ : ByteArray), .slice Ao4 y136.length co4] from (k25_mkF _ _ (⟨11, ([] : List (S47)), (⟨#[]⟩ : ByteArray), y136⟩ : S25) (Nat.le_refl _) (Kd.F_nil _ _ _) (Kd.N_reads' (Kd.N_mono (ok' := (fun k_ => (w.heap.size ≤ k_) ∧ k_ ≠ gb135)) (HO138.out) (fun k_ hk => ⟨hk.1, hk.2⟩))).2.1 (Kd.N_F (Kd.N_mono (ok' := (fun k_ => (w.heap.size ≤ k_) ∧ k_ ≠ gb135)) (HO138.out) (fun k_ hk => ⟨hk.1, hk.2⟩))))) (Reps.c4 (show Kd.FK k25 _ _ (⟨16, ([] : List (S47)), (⟨#[]⟩ : ByteArray), ([] : List (S25))⟩ : S25) [.int .i64 16, .slice none 0 0, .string (⟨#[]⟩ : ByteArray), .slice none 0 0] from (k25_mkF _ _ (⟨16, ([] : List (S47)), (⟨#[]⟩ : ByteArray), ([] : List (S25))⟩ : S25) (Nat.le_refl _) (Kd.F_nil _ _ _) (Nat.le_refl _) (Kd.F_nil _ _ _))) (Reps.none _ _)))); intro v140 w5 ho6 hb hg_ hnew_; clear hg_ hnew_; (first | rw [← Ny139.out] at ho6 | (simp only [Int.reduceToNat] at ho6; rw [← Ny139.out] at ho6)); have n0_ := Aside0.mk (Kd.N_lower ho6 (below_size (by repeat (first | (with_reducible first | exact HB.out | apply below_alloc | apply pw_below_drewN | apply below_drew1 | refine below_set ?_ GE135.out) | exact HB.out)))); have n1_ := Aside0.mk (blk_below (g := gb135) (o := .cells #[.int .i64 0, .slice none 0 0, .string (⟨#[]⟩ : ByteArray), .slice none 0 0] 25 (0, 0)) (by (with_reducible repeat (first | refine blk_drewN ?_ _ | refine blk_drew ?_ | refine blk_alloc ?_ _)); exact BK135.out) hb); have n2_ := Aside0.mk (below_step (by repeat (first | (with_reducible first | exact HB.out | apply below_alloc | apply pw_below_drewN | apply below_drew1 | refine below_set ?_ GE135.out) | exact HB.out)) hb); clear BK135; clear HB; clear HO138; have HO141 := n0_; have BK135 := n1_; have HB := n2_; clear n0_ n1_ n2_; clear hb ho6; obtain ⟨Ao7, co7, eo7⟩ := Kd.N_slice HO141.out; subst eo7) | ((with_reducible refine gate_dst (N := 7) rfl ?_); refine Kd.N_lit k25 _ 25 ?hg (N' := 7) ?hd (xs := ([(⟨2, ([] : List (S47)), (⟨#[]⟩ : ByteArray), y139⟩ : S25)] : List (S25))) (inner := [.int .i64 2, .slice none 0 0, .string (⟨#[]⟩ : ByteArray), .slice Ao7 y139.length co7]) (ok := (fun k_ => (w.heap.size ≤ k_) ∧ k_ ≠ gb135)) (okp := (fun k_ => (w.heap.size ≤ k_) ∧ k_ ≠ gb135)) ?hr ?hp (fun _ hk => hk) ((show ∀ k_, w5.heap.size ≤ k_ → (fun k_ => (w.heap.size ≤ k_) ∧ k_ ≠ gb135) k_ from fun k_ hk => ⟨(Nat.le_trans (below_size (by repeat (first | (with_reducible first | exact HB.out | apply below_alloc | apply pw_below_drewN | apply below_drew1 | refine below_set ?_ GE135.out) | exact HB.out))) hk), Kd.freshB (g := gb135) (o := .cells #[.int .i64 0, .slice none 0 0, .string (⟨#[]⟩ : ByteArray), .slice none 0 0] 25 (0, 0)) (by (with_reducible repeat (first | refine blk_drewN ?_ _ | refine blk_drew ?_ | refine blk_alloc ?_ _)); exact BK135.out) k_ hk⟩) _ (Nat.le_refl _)) (Below.refl _ _) (Nat.le_refl _) (by simp) ?_; (case hd => rfl); (case hg => rfl); (case hr => first | (go_simp; done) | (go_simp; rfl)); (case hp => exact (Reps.c4 (show Kd.FK k25 _ _ (⟨2, ([] : List (S47)), (⟨#[]⟩ : ByteArray), y139⟩ : S25) [.int .i64 2, .slice none 0 0, .string (⟨#[]⟩ : ByteArray), .slice Ao7 y139.length co7] from (k25_mkF _ _ (⟨2, ([] : List (S47)), (⟨#[]⟩ : ByteArray), y139⟩ : S25) (Nat.le_refl _) (Kd.F_nil _ _ _) (Kd.N_reads' (Kd.N_mono (ok' := (fun k_ => (w.heap.size ≤ k_) ∧ k_ ≠ gb135)) (HO141.out) (fun k_ hk => ⟨hk.1, hk.2⟩))).2.1 (Kd.N_F (Kd.N_mono (ok' := (fun k_ => (w.heap.size ≤ k_) ∧ k_ ≠ gb135)) (HO141.out) (fun k_ hk => ⟨hk.1, hk.2⟩))))) (Reps.none _ _))); intro v143 w8 ho9 hb hg_ hnew_; clear hg_ hnew_; (first | rw [← Ny142.out] at ho9 | (simp only [Int.reduceToNat] at ho9; rw [← Ny142.out] at ho9)); have n0_ := Aside0.mk (Kd.N_lower ho9 (below_size (by repeat (first | (with_reducible first | exact HB.out | apply below_alloc | apply pw_below_drewN | apply below_drew1 | refine below_set ?_ GE135.out) | exact HB.out)))); have n1_ := Aside0.mk (blk_below (g := gb135) (o := .cells #[.int .i64 0, .slice none 0 0, .string (⟨#[]⟩ : ByteArray), .slice none 0 0] 25 (0, 0)) (by (with_reducible repeat (first | refine blk_drewN ?_ _ | refine blk_drew ?_ | refine blk_alloc ?_ _)); exact BK135.out) hb); have n2_ := Aside0.mk (below_step (by repeat (first | (with_reducible first | exact HB.out | apply below_alloc | apply pw_below_drewN | apply below_drew1 | refine below_set ?_ GE135.out) | exact HB.out)) hb); clear BK135; clear HB; clear HO141; have HO144 := n0_; have BK135 := n1_; have HB := n2_; clear n0_ n1_ n2_; clear hb ho9; obtain ⟨Ao10, co10, eo10⟩ := Kd.N_slice HO144.out; subst eo10; have hcz11_0 : w8.cell? ⟨gb135, 0, none⟩ = some (.int .i64 0) := (blk_cell BK135.out 0).trans rfl; have hcz11_1 : w8.cell? ⟨gb135, 1, none⟩ = some (.slice none 0 0) := (blk_cell BK135.out 1).trans rfl; have hcz11_2 : w8.cell? ⟨gb135, 2, none⟩ = some (.string (⟨#[]⟩ : ByteArray)) := (blk_cell BK135.out 2).trans rfl; have hcz11_3 : w8.cell? ⟨gb135, 3, none⟩ = some (.slice none 0 0) := (blk_cell BK135.out 3).trans rfl; have hfz11_0 := blk_frozen BK135.out 0; have hfz11_1 := blk_frozen BK135.out 1; have hfz11_2 := blk_frozen BK135.out 2; have hfz11_3 := blk_frozen BK135.out 3))
  refine bodyPost_ret (results_cell_row rfl _ _ gb135 25 #[.int .i64 1, .slice none 0 0, .string (⟨#[]⟩ : ByteArray), .slice Ao10 y142.length co10] (0, 0) _ rfl (by (with_reducible repeat (first | refine blk_drewN ?_ _ | refine blk_drew ?_ | refine blk_alloc ?_ _)); refine blk_put (cs := #[.int .i64 1, .slice none 0 0, .string (⟨#[]⟩ : ByteArray), .slice none 0 0]) ?_ 3 _ rfl; (with_reducible repeat (first | refine blk_drewN ?_ _ | refine blk_drew ?_ | refine blk_alloc ?_ _)); refine blk_put (cs := #[.int .i64 1, .slice none 0 0, .string (⟨#[]⟩ : ByteArray), .slice none 0 0]) ?_ 2 _ rfl; (with_reducible repeat (first | refine blk_drewN ?_ _ | refine blk_drew ?_ | refine blk_alloc ?_ _)); refine blk_put (cs := #[.int .i64 1, .slice none 0 0, .string (⟨#[]⟩ : ByteArray), .slice none 0 0]) ?_ 1 _ rfl; (with_reducible repeat (first | refine blk_drewN ?_ _ | refine blk_drew ?_ | refine blk_alloc ?_ _)); refine blk_put (cs := #[.int .i64 0, .slice none 0 0, .string (⟨#[]⟩ : ByteArray), .slice none 0 0]) ?_ 0 _ rfl; (with_reducible repeat (first | refine blk_drewN ?_ _ | refine blk_drew ?_ | refine blk_alloc ?_ _)); exact BK135.out) Tryd.underlying25 rfl (by kernel_rfl)) rfl ?_
  exact ⟨_, _, by first | rfl | (simp [errW_none, errW_some] <;> rfl) | (simp [*, errW_none, errW_some] <;> rfl), by first | exact Kd.R_nil _ _ _ _ _ | exact Kd.N_nil _ _ _ _ _ | exact Kd.V_nil _ _ _ _ _ | exact Kd.Q_nil _ _ _ _ _ | exact Kd.S_nil _ _ _ _ _, by (with_reducible repeat (first | apply Kd.N_alloc | apply Kd.N_drewN | apply Kd.N_drew)); exact Kd.N_mono (Kd.N_far (p := ⟨gb135, 3, none⟩) (Kd.N_far (p := ⟨gb135, 2, none⟩) (Kd.N_far (p := ⟨gb135, 1, none⟩) (Kd.N_far (p := ⟨gb135, 0, none⟩) (Kd.N_mono HO144.out (fun k_ hk => (⟨hk, hk.2⟩ : _ ∧ k_ ≠ gb135))) (fun _ hk => hk.2) (.int .i64 1)) (fun _ hk => hk.2) (.slice none 0 0)) (fun _ hk => hk.2) (.string (⟨#[]⟩ : ByteArray))) (fun _ hk => hk.2) (.slice Ao10 y142.length co10)) (fun _ hk => ⟨hk.1.1, (by simp [Value.ownBlock])⟩), by repeat (first | (with_reducible first | exact HB.out | apply below_alloc | apply pw_below_drewN | apply below_drew1 | refine below_set ?_ GE135.out) | exact HB.out)⟩

end Go.Proofs.YtbbikcmkcgoamaaDoor.Pp

/-
  The law's awake: the chapter's example.
-/
namespace Go.Proofs.YtbbikcmkcgoamaaDoor.Pp
open Go.RowKit Go.Proofs.YtbbikcmkcgoamaaDoorW.PrintWords Go.Proofs.YtbbikcmkcgoamaaDoorW.PrintLast Go.Proofs.YtbbikcmkcgoamaaDoorW.PrintMore Go.Proofs.YtbbikcmkcgoamaaDoor.My
set_option linter.unusedVariables false
set_option linter.unusedSimpArgs false

theorem ex_inner_calls (A1 : Option Addr) (c1 : Nat) (A3 : Option Addr) (c3 : Nat) (w : World) (h1 : Kd.C k47 w A1 0 []) (h3 : Kd.C k25 w A3 exN.f3.length exN.f3) (l3 : exN.f3.length ≤ c3) :
    Calls Tryd.prog 10 #[.agg #[.int .i64 1, .slice A1 0 c1, .string ⟨#[]⟩, .slice A3 exN.f3.length c3]] w fun e w' => e = .returned (.string ⟨#[60, 112, 62, 60, 98, 62, 120, 38, 108, 116, 59, 121, 60, 47, 98, 62, 60, 98, 114, 62, 60, 47, 112, 62]⟩) ∧ Below w.heap.size w w' :=
  print_Inner.calls 1 A1 c1 [] ⟨#[]⟩ A3 c3 exN.f3 _ w h1 (Nat.zero_le _) h3 l3 (by show outText (innerP exN) = _; rw [ex_inner]; rfl)
theorem ex_normal_calls (A1 : Option Addr) (c1 : Nat) (A3 : Option Addr) (c3 : Nat) (w : World) (h1 : Kd.C k47 w A1 0 []) (h3 : Kd.C k25 w A3 exN.f3.length exN.f3) (l3 : exN.f3.length ≤ c3) (hT : Tabs w) :
    Calls Tryd.prog 12 #[.agg #[.int .i64 1, .slice A1 0 c1, .string ⟨#[]⟩, .slice A3 exN.f3.length c3]] w fun e w' => e = .returned (.bool true) ∧ Below w.heap.size w w' :=
  print_Normal.calls exN A1 c1 A3 c3 true w h1 (Nat.zero_le _) h3 l3 hT (by unfold print_Normal.f; rw [if_pos ⟨ex_tsz, by rw [ex_inner]; decide⟩, ex_normal])
theorem two_C (w : World) (g : Nat) (t : TypeId) (h : w.heap[g]? = some (.cells #[.int .i64 0, .slice none 0 0, .string ⟨#[97]⟩, .slice none 0 0, .int .i64 0, .slice none 0 0, .string ⟨#[98]⟩, .slice none 0 0] t (0, 0))) : Kd.C k25 w (some ⟨g, 0, none⟩) 2 twoN.f3 := by
  refine ⟨rfl, by decide, fun _ => ⟨_, rfl, fun j p hj => ?_⟩⟩
  have hn1 : Kd.C k47 w none 0 [] := ⟨rfl, by decide, fun h => absurd h (by decide)⟩
  have hn3 : Kd.C k25 w none 0 [] := ⟨rfl, by decide, fun h => absurd h (by decide)⟩
  match j, hj with
  | 0, hj =>
    obtain rfl := Option.some.inj hj
    refine ⟨_, rfl, k25_mk w ⟨0, [], ⟨#[97]⟩, []⟩ (A1 := none) (c1 := 0) (Nat.zero_le _) hn1 (A3 := none) (c3 := 0) (Nat.zero_le _) hn3, fun k u hk => ?_⟩
    have hb := blk_cell h k
    match k, hk with
    | 0, hk => exact hb.trans hk
    | 1, hk => exact hb.trans hk
    | 2, hk => exact hb.trans hk
    | 3, hk => exact hb.trans hk
  | 1, hj =>
    obtain rfl := Option.some.inj hj
    refine ⟨_, rfl, k25_mk w ⟨0, [], ⟨#[98]⟩, []⟩ (A1 := none) (c1 := 0) (Nat.zero_le _) hn1 (A3 := none) (c3 := 0) (Nat.zero_le _) hn3, fun k u hk => ?_⟩
    have hb := blk_cell h (4 + k)
    match k, hk with
    | 0, hk => exact hb.trans hk
    | 1, hk => exact hb.trans hk
    | 2, hk => exact hb.trans hk
    | 3, hk => exact hb.trans hk
theorem two_normal_calls (g : Nat) (w : World) (t : TypeId) (h : w.heap[g]? = some (.cells #[.int .i64 0, .slice none 0 0, .string ⟨#[97]⟩, .slice none 0 0, .int .i64 0, .slice none 0 0, .string ⟨#[98]⟩, .slice none 0 0] t (0, 0))) (hT : Tabs w) :
    Calls Tryd.prog 12 #[.agg #[.int .i64 1, .slice none 0 0, .string ⟨#[]⟩, .slice (some ⟨g, 0, none⟩) 2 2]] w fun e w' => e = .returned (.bool false) ∧ Below w.heap.size w w' :=
  print_Normal.calls twoN none 0 (some ⟨g, 0, none⟩) 2 false w ⟨rfl, by decide, fun h => absurd h (by decide)⟩ (Nat.zero_le _) (two_C w g t h) (by decide) hT (by unfold print_Normal.f; rw [if_pos ⟨two_tsz, two_len⟩, two_normal])

set_option maxHeartbeats 400000 in
set_option maxRecDepth 100000 in
theorem awake_calls (w : World) (hT : Tabs w) : Calls Tryd.prog 6 #[] w fun e w' => e = .returned (.bool true) ∧ Below w.heap.size w w' := by
  have HT := Aside0.mk hT
  clear hT
  go_enter Tryd.func6, Tryd.ntmps6
  go_wp2_with (first | (go_at_call 16; refine (quillworklaw16_example.calls 1 [] ⟨#[]⟩ exN.f3 _ rfl).mono ?_; intro e v2 hh; obtain ⟨v1_, v3_, rfl, hr1, hn3, hb⟩ := hh; obtain ⟨A1, c1, rfl, _, hC1⟩ := Kd.R_reads hr1; obtain ⟨A3, c3, rfl, hl3, hC3⟩ := Kd.N_reads hn3; have C1 := Aside0.mk hC1; have C3 := Aside0.mk hC3; have HL3 := Aside0.mk hl3; have HB := Aside0.mk hb; clear hr1 hn3 hb hC1 hC3 hl3))
  have hb1 := (Below.refl v2.heap.size v2).alloc (Nat.le_refl _) (.cells #[.int .i64 1, .slice A1 0 c1, .string ⟨#[]⟩, .slice A3 exN.f3.length c3] 25)
  have K0 := Aside0.mk (blk_new v2 (.cells #[.int .i64 1, .slice A1 0 c1, .string ⟨#[]⟩, .slice A3 exN.f3.length c3] 25))
  have HB1 := Aside0.mk (HB.out.trans (hb1.mono HB.out.size))
  have D1 := Aside0.mk (Kd.C_below C1.out hb1)
  have D3 := Aside0.mk (Kd.C_below C3.out hb1)
  clear hb1
  refine (ex_inner_calls A1 c1 A3 c3 _ D1.out D3.out HL3.out).mono ?_
  intro e v3 hh
  obtain ⟨rfl, hb⟩ := hh
  have HB3 := Aside0.mk (HB1.out.trans (hb.mono HB1.out.size))
  have K3 := Aside0.mk (blk_below K0.out hb)
  have E1 := Aside0.mk (Kd.C_below D1.out hb)
  have E3 := Aside0.mk (Kd.C_below D3.out hb)
  clear hb
  have x0 : v3.cell? ⟨v2.heap.size, 0, none⟩ = some (.int .i64 1) := blk_cell K3.out 0
  have x1 : v3.cell? ⟨v2.heap.size, 1, none⟩ = some (.slice A1 0 c1) := blk_cell K3.out 1
  have x2 : v3.cell? ⟨v2.heap.size, 2, none⟩ = some (.string ⟨#[]⟩) := blk_cell K3.out 2
  have x3 : v3.cell? ⟨v2.heap.size, 3, none⟩ = some (.slice A3 exN.f3.length c3) := blk_cell K3.out 3
  generalize v2.heap.size = g2 at *
  go_wp2_with fail
  refine (ex_normal_calls A1 c1 A3 c3 _ E1.out E3.out HL3.out (HT.out.below HB3.out)).mono ?_
  intro e v4 hh
  obtain ⟨rfl, hb⟩ := hh
  have HB4 := Aside0.mk (HB3.out.trans (hb.mono HB3.out.size))
  clear hb K0 K3 C1 C3 D1 D3 E1 E3 x0 x1 x2 x3 HB1
  go_wp2_with fail
  have hb1 := (Below.refl v4.heap.size v4).alloc (Nat.le_refl _) (.cells #[.int .i64 0, .slice none 0 0, .string ⟨#[97]⟩, .slice none 0 0, .int .i64 0, .slice none 0 0, .string ⟨#[98]⟩, .slice none 0 0] 25)
  have HB5 := Aside0.mk (HB4.out.trans (hb1.mono HB4.out.size))
  clear hb1
  refine (two_normal_calls v4.heap.size _ 25 (blk_new v4 (.cells #[.int .i64 0, .slice none 0 0, .string ⟨#[97]⟩, .slice none 0 0, .int .i64 0, .slice none 0 0, .string ⟨#[98]⟩, .slice none 0 0] 25)) (HT.out.below HB5.out)).mono ?_
  intro e v6 hh
  obtain ⟨rfl, hb⟩ := hh
  have HB6 := Aside0.mk (HB5.out.trans (hb.mono HB5.out.size))
  clear hb
  go_wp2
  go_ret
  exact ⟨rfl, HB6.out⟩
end Go.Proofs.YtbbikcmkcgoamaaDoor.Pp
