/- Joined by merge.py of this session: words, walks and plain laws of this claim. -/
import Derived.Test.YtbbikcmkcgoamaaDoorMkuM8
import Derived.Test.YtbbikcmkcgoamaaDoorMkuM7
import Derived.Test.YtbbikcmkcgoamaaDoorRows
import Derived.Deep.Slices
import Derived.Deep.Fields
import Derived.ChangeSame
import Derived.Test.YtbbikcmkcgoamaaDoorCards
import Derived.Test.YtbbikcmkcgoamaaDoorTie
import Derived.WalkKit
import Derived.ProofKit
import Derived.OpenShut
import Derived.Carry
import Derived.Lib.LaidIn
import Derived.Lib.LaidU8T
import Derived.Deep.DeepHandedRow
import Derived.Deep.DeepWitnessRowRef
import Derived.PinnedBridge
import Derived.Lib.MapLaws
import Derived.Lib.TrimUEq
import Derived.Test.YtbbikcmkcgoamaaDoorMkuM5
import Derived.Test.YtbbikcmkcgoamaaDoorMkuM3
set_option linter.unusedSimpArgs false
set_option linter.unusedVariables false
namespace Go.Proofs.YtbbikcmkcgoamaaDoor.Pp
open Go.RowKit Go.Proofs.YtbbikcmkcgoamaaDoorW.PrintWords Go.Proofs.YtbbikcmkcgoamaaDoorW.PrintLast Go.Proofs.YtbbikcmkcgoamaaDoorW.PrintMore Go.Proofs.YtbbikcmkcgoamaaDoor.My
def inLine (t : Int) (line : Bool) : Bool := if tclass t = 3 ∨ tclass t = 2 then (tclass t == 3 && t != 9) else line
def inLi (t : Int) (li : Bool) : Bool := if tclass t = 3 ∨ tclass t = 2 then (t == 9 || (li && t != 7 && t != 8)) else li
mutual
def lookN : S25 → Nat → Bool → Bool → Bool → Nat → Bool × Nat
 | ⟨t, l, tx, ks⟩, d, box, line, li, c =>
  if 2000 < c + 1 ∨ 40 < d then (false, c + 1)
  else if tclass t = 0 then (false, c + 1)
  else if tclass t = 1 then (textOk ⟨t, l, tx, ks⟩ box, c + 1)
  else if tclass t = 5 then (tx.toList.isEmpty && (mayOk l && decide (ks.length = 0)), c + 1)
  else if (tclass t = 3 ∨ tclass t = 2) ∧ (line || (t == 9 && li)) = true then (false, c + 1)
  else if (tx.toList.isEmpty && mayOk l) = true then lookK ks false (d + 1) (tclass t == 2) (inLine t line) (inLi t li) (c + 1) else (false, c + 1)
def lookK : List S25 → Bool → Nat → Bool → Bool → Bool → Nat → Bool × Nat
 | [], _, _, _, _, _, c => (true, c)
 | k :: ks, pt, d, box, line, li, c => if (pt && k.f0 == 0) = true then (false, c) else if (lookN k d box line li c).1 = true then lookK ks (k.f0 == 0) d box line li (lookN k d box line li c).2 else (false, (lookN k d box line li c).2)
end
mutual
theorem lookN_le : ∀ (n : S25) (d : Nat) (box line li : Bool) (c : Nat), c ≤ 2000 → (lookN n d box line li c).2 ≤ 2001 ∧ ((lookN n d box line li c).1 = true → (lookN n d box line li c).2 ≤ 2000)
 | ⟨t, l, tx, ks⟩, d, box, line, li, c, hc => by
  unfold lookN; split
  ·exact ⟨by simp; omega, by simp⟩
  ·rename_i h
   have h1 : c + 1 ≤ 2000 := by omega
   split
   ·exact ⟨by simp; omega, by simp⟩
   ·split
    ·exact ⟨by simp; omega, fun _ => h1⟩
    ·split
     ·exact ⟨by simp; omega, fun _ => h1⟩
     ·split
      ·exact ⟨by simp; omega, by simp⟩
      ·split
       ·exact lookK_le ks _ _ _ _ _ _ h1
       ·exact ⟨by simp; omega, by simp⟩
theorem lookK_le : ∀ (l : List S25) (pt : Bool) (d : Nat) (box line li : Bool) (c : Nat), c ≤ 2000 → (lookK l pt d box line li c).2 ≤ 2001 ∧ ((lookK l pt d box line li c).1 = true → (lookK l pt d box line li c).2 ≤ 2000)
 | [], _, _, _, _, _, c, hc => by unfold lookK; exact ⟨by simp; omega, fun _ => hc⟩
 | k :: ks, pt, d, box, line, li, c, hc => by
  unfold lookK; have h0 := lookN_le k d box line li c hc; split
  ·exact ⟨by simp; omega, by simp⟩
  ·split
   ·rename_i h
    exact lookK_le ks _ _ _ _ _ _ (h0.2 h)
   ·exact ⟨h0.1, by simp⟩
end
def tszK : List S25 → Nat
 | [] => 0
 | ⟨_, _, tx, ks⟩ :: r => tx.size + tszK ks + tszK r
def tsz (n : S25) : Nat := n.f2.size + tszK n.f3
theorem tszK_cons (k : S25) (r : List S25) : tszK (k :: r) = tsz k + tszK r := by cases k; simp [tszK, tsz]
theorem tsz_mem : ∀ {l : List S25} {k : S25}, k ∈ l → tsz k ≤ tszK l
 | a :: l, k, h => by
  rw [tszK_cons]; rcases List.mem_cons.1 h with rfl | h
  ·omega
  ·have := tsz_mem h; omega
def Lk (B b : Nat) (c : Nat) (w v : World) : Prop := v.heap[b]? = some (.cells #[.int .i64 c] 50 (0, 0)) ∧ Below B w v ∧ KeepBut w v b none
theorem Lk.trans {B b c c' : Nat} {w v v' : World} (h : Lk B b c w v) (k : Lk B b c' v v') : Lk B b c' w v' := ⟨k.1, h.2.1.trans k.2.1, h.2.2.trans k.2.2 (.inl rfl)⟩
theorem Lk.below {B b c : Nat} {w v v' : World} (h : Lk B b c w v) (hB : B ≤ v.heap.size) (hb : Below v.heap.size v v') : Lk B b c w v' := ⟨blk_below h.1 hb, h.2.1.trans (hb.mono hB), h.2.2.trans (KeepBut.of_below hb b none) (.inl rfl)⟩
theorem Lk.blk {B b c : Nat} {w v : World} (h : Lk B b c w v) {g : Nat} {o : Obj} (hg : w.heap[g]? = some o) (hne : g ≠ b) : v.heap[g]? = some o := h.2.2.blk hg hne (by simp)
theorem Lk.start {B b c : Nat} {w : World} (h : w.heap[b]? = some (.cells #[.int .i64 c] 50 (0, 0))) : Lk B b c w w := ⟨h, Below.refl _ _, KeepBut.refl _ _ _⟩
theorem Lk.size {B b c : Nat} {w v : World} (h : Lk B b c w v) : w.heap.size ≤ v.heap.size := h.2.1.size
section
variable {P : Program} {ops : Array Oper} {rest : List Oper} {o : Oper} {a : Act} {Q : Exit → Act → World → Prop}
end
theorem Lk.set {B b c c' : Nat} {w v v' : World} (h : Lk B b c w v) (hB : B ≤ b) (h1 : v'.heap[b]? = some (.cells #[.int .i64 c'] 50 (0, 0))) (h2 : KeepBut v v' b none) (h3 : ∀ B, B ≤ b → Below B v v') : Lk B b c' w v' :=
 ⟨h1, h.2.1.trans (h3 B hB), h.2.2.trans h2 (.inl rfl)⟩
def LookC (f : FuncId) (F : Nat → Bool → Bool → Bool → Nat → Bool × Nat) (n : S25) : Prop := ∀ (w0 w : World) (b : Nat) (A1 : Option Addr) (c1 : Nat) (A3 : Option Addr) (c3 : Nat) (d : Nat) (box line li : Bool) (c : Nat),
 Kd.C k47 w0 A1 n.f1.length n.f1 → n.f1.length ≤ c1 → Kd.C k25 w0 A3 n.f3.length n.f3 → n.f3.length ≤ c3 → Below w0.heap.size w0 w → Tabs w0 → tsz n ≤ 70368744177664 → w0.heap.size ≤ b → w.heap[b]? = some (.cells #[.int .i64 c] 50 (0, 0)) → c ≤ 2000 → d ≤ 41 →
 Calls Tryd.prog f #[.pointer (some ⟨b, 0, none⟩), lookNodeV n A1 c1 A3 c3, aroundV d box line li] w fun e w' => e = .returned (.bool (F d box line li c).1) ∧ Lk w0.heap.size b (F d box line li c).2 w w'
def prevText (l : List S25) : Nat → Bool
 | 0 => false
 | i + 1 => match l[i]? with
  | some k => k.f0 == 0
  | none => false
theorem prevText_at (l : List S25) (i : Nat) (h : i ≤ l.length) (h0 : 0 < i) : prevText l i = ((rd_T25 l ((i : Int) - 1)).f0 == 0) := by
 obtain ⟨j, rfl⟩ : ∃ j, i = j + 1 := ⟨i - 1, by omega⟩; have hj : j < l.length := by omega
 have e : (((j + 1 : Nat) : Int) - 1).toNat = j := by omega
 simp [prevText, rd_T25, e, List.getD_eq_getElem?_getD, List.getElem?_eq_getElem hj]
set_option maxHeartbeats 8000000 in
set_option maxRecDepth 100000 in
theorem kids_calls (n : S25) (hk : ∀ k, k ∈ n.f3 → LookC 33 (lookN k) k) : LookC 23 (lookK n.f3 false) n := by
 intro w0 w b A1 c1 A3 c3 d box line li c h1 l1 h3 l3 hB hT hsz hb hblk hc hd; unfold lookNodeV aroundV; obtain ⟨R, hR⟩ : ∃ R, R = lookK n.f3 false d box line li c := ⟨_, rfl⟩; rw [← hR]; have HR := Aside0.mk hR.symm; have HK := Aside0.mk hk; have H1 := Aside0.mk h1; have H3 := Aside0.mk h3; have HB := Aside0.mk hB; have HT := Aside0.mk hT; have HSZ := Aside0.mk hsz; have HBb := Aside0.mk hb; have HBL := Aside0.mk hblk; have HC := Aside0.mk hc; have HD := Aside0.mk hd; have L1 := Aside0.mk l1; have L3 := Aside0.mk l3; have HBS := Aside0.mk hB.size; have H2 := H3.out.2.1; clear hR hk h1 h3 hB hT hsz hb hblk hc hd l1 l3; go_enter Tryd.func23, Tryd.ntmps23
 go_wp2; go_loopw [12] (fun v12 wr => ∃ (i cur : Nat), v12 = .int .i64 i ∧ i ≤ n.f3.length ∧ cur ≤ 2000 ∧ Aside0 (lookK (n.f3.drop i) (prevText n.f3 i) d box line li cur = R) ∧ Aside0 (Lk w0.heap.size b cur w wr) ∧ Aside0 (wr.heap[w.heap.size]? = some (.cells #[.int .i64 n.f0, .slice A1 n.f1.length c1, .string n.f2, .slice A3 n.f3.length c3] 25 (0, 0))) ∧ Aside0 (wr.heap[w.heap.size + 1]? = some (.cells #[.int .i64 d, .bool box, .bool line, .bool li] 53 (0, 0)))) (fun v12 _ => n.f3.length - (intOf v12).toNat)
 case atStart =>
  refine ⟨0, c, rfl, Nat.zero_le _, HC.out, ⟨HR.out⟩, ⟨?_⟩, ⟨blk2_0 _ _ _⟩, ⟨blk2_1 _ _ _⟩⟩; exact (Lk.start HBL.out).below HBS.out (bel2 _ _ _)
 case round =>
  obtain ⟨i, cur, rfl, hi, hcur, hR, hL, hn1, hn2⟩ := hrel; by_cases hlt : i < n.f3.length
  ·have q1 : (0 : Int) ≤ (i : Int) := by omega
   have q2 : (i : Int) < (n.f3.length : Int) := by omega
   have HBr := Aside0.mk (HB.out.trans hL.out.2.1); obtain ⟨ad, B1, d1, B3, d3, eA, hx0, hx1, hx2, hx3, m1, g1, m3, g3⟩ := at_T25 H3.out (i : Int) q1 q2; have hrd : rd_T25 n.f3 (i : Int) = n.f3[i] := by simp [rd_T25, List.getD_eq_getElem?_getD, List.getElem?_eq_getElem hlt]
   rw [hrd] at hx0 hx1 hx2 hx3 m1 g1 m3 g3; have HKi := Aside0.mk (HK.out _ (List.getElem_mem hlt)); have SK := Aside0.mk (show tsz n.f3[i] ≤ 70368744177664 by have h1 := tsz_mem (List.getElem_mem hlt); have h2 := HSZ.out; unfold tsz at h2; omega); have hdr : n.f3.drop i = n.f3[i] :: n.f3.drop (i + 1) := List.drop_eq_getElem_cons hlt; have hpt : prevText n.f3 (i + 1) = (n.f3[i].f0 == 0) := by simp [prevText, List.getElem?_eq_getElem hlt]
   have HF := Aside0.mk (show (if (prevText n.f3 i && n.f3[i].f0 == 0) = true then (false, cur) else if (lookN n.f3[i] d box line li cur).1 = true then lookK (n.f3.drop (i + 1)) (prevText n.f3 (i + 1)) d box line li (lookN n.f3[i] d box line li cur).2 else (false, (lookN n.f3[i] d box line li cur).2)) = R by have := hR.out; rw [hdr] at this; unfold lookK at this; rw [hpt]; exact this); have HLE := Aside0.mk (lookN_le n.f3[i] d box line li cur hcur); have HP := Aside0.mk (prevText_at n.f3 i (by omega)); generalize n.f3[i] = k at *; clear hrd hdr hR hpt; simp only [Int.toNat_natCast] at hx0 hx1 hx2 hx3; subst eA; replace hx0 := (HBr.out.cell (World.block_lt_of_cell? w0 _ hx0)).trans hx0; replace hx1 := (HBr.out.cell (World.block_lt_of_cell? w0 _ hx1)).trans hx1; replace hx2 := (HBr.out.cell (World.block_lt_of_cell? w0 _ hx2)).trans hx2; replace hx3 := (HBr.out.cell (World.block_lt_of_cell? w0 _ hx3)).trans hx3; have M1 := Aside0.mk m1; have G1 := Aside0.mk g1; have M3 := Aside0.mk m3; have G3 := Aside0.mk g3; have HCU := Aside0.mk hcur; clear m1 g1 m3 g3; have hb := (Below.refl wr.heap.size wr).alloc (Nat.le_refl _) (.cells #[.int .i64 k.f0, .slice B1 k.f1.length d1, .string k.f2, .slice B3 k.f3.length d3] 25); have P1 := Aside0.mk (HBr.out.trans (hb.mono HBr.out.size)); have P2 := Aside0.mk (blk_below hL.out.1 hb); have HN1 := Aside0.mk (blk_below hn1.out hb); have HN2 := Aside0.mk (blk_below hn2.out hb); have HG1 := Aside0.mk (show w.heap.size ≠ b by have := blk_lt HBL.out; omega); have HG2 := Aside0.mk (show w.heap.size + 1 ≠ b by have := blk_lt HBL.out; omega); have HL1 := Aside0.mk (hL.out.below HBr.out.size hb); have z0 : (wr.alloc (.cells #[.int .i64 k.f0, .slice B1 k.f1.length d1, .string k.f2, .slice B3 k.f3.length d3] 25)).cell? ⟨w.heap.size, 3, none⟩ = some (.slice (some ad) n.f3.length c3) := blk_cell HN1.out 3; have z1 : (wr.alloc (.cells #[.int .i64 k.f0, .slice B1 k.f1.length d1, .string k.f2, .slice B3 k.f3.length d3] 25)).cell? ⟨w.heap.size + 1, 0, none⟩ = some (.int .i64 d) := blk_cell HN2.out 0; have z2 : (wr.alloc (.cells #[.int .i64 k.f0, .slice B1 k.f1.length d1, .string k.f2, .slice B3 k.f3.length d3] 25)).cell? ⟨w.heap.size + 1, 1, none⟩ = some (.bool box) := blk_cell HN2.out 1; have z3 : (wr.alloc (.cells #[.int .i64 k.f0, .slice B1 k.f1.length d1, .string k.f2, .slice B3 k.f3.length d3] 25)).cell? ⟨w.heap.size + 1, 2, none⟩ = some (.bool line) := blk_cell HN2.out 2; have z4 : (wr.alloc (.cells #[.int .i64 k.f0, .slice B1 k.f1.length d1, .string k.f2, .slice B3 k.f3.length d3] 25)).cell? ⟨w.heap.size + 1, 3, none⟩ = some (.bool li) := blk_cell HN2.out 3; clear hb hL hn1 hn2 hcur; rcases Nat.eq_zero_or_pos i with h0 | h0
   ·have HPK := Aside0.mk (show (prevText n.f3 i && k.f0 == 0) = false by rw [h0]; rfl); have b0 : ¬ (0 : Int) < (i : Int) := by omega
    have b1 : decide ((i : Int) > 0) = false := by simp; omega
    clear h0; go_wp2_with (go_at_call 33; refine (HKi.out w0 _ b B1 d1 B3 d3 d box line li cur G1.out M1.out G3.out M3.out P1.out HT.out SK.out HBb.out P2.out HCU.out HD.out).mono ?_)
    generalize lookN k d box line li cur = r1 at *; obtain ⟨r, c2⟩ := r1; first | (rintro e W2 ⟨rfl, h1⟩; have HW := Aside0.mk h1; clear h1) | (rintro e W2 rfl h1; have HW := Aside0.mk h1; clear h1)
    simp only at HW; cases r
    ·have hr := HF.out; simp only [HPK.out, Bool.false_eq_true, if_false] at hr; subst hr; clear HF; go_wp2; go_ret; exact ⟨rfl, HL1.out.trans HW.out⟩
    ·have hr := HF.out; simp only [HPK.out, Bool.false_eq_true, if_false, if_true] at hr; have HR2 := Aside0.mk hr; have HC2 := Aside0.mk (HLE.out.2 rfl); clear hr HF; go_wp2; go_roundw
     case rel => exact ⟨i + 1, c2, by go_num, by omega, HC2.out, ⟨HR2.out⟩, ⟨HL1.out.trans HW.out⟩, ⟨HW.out.blk HN1.out HG1.out⟩, ⟨HW.out.blk HN2.out HG2.out⟩⟩
     case measure => simp [intOf]; omega
   ·have HPV := Aside0.mk (HP.out h0); have q3 : (0 : Int) ≤ (i : Int) - 1 := by omega
    have q4 : (i : Int) - 1 < (n.f3.length : Int) := by omega
    obtain ⟨ad2, E1, e1, E3, e3, eA2, hy0, _⟩ := at_T25 H3.out ((i : Int) - 1) q3 q4; obtain rfl := Option.some.inj eA2; clear eA2; generalize rd_T25 n.f3 ((i : Int) - 1) = k2 at *; rw [show ((i : Int) - 1).toNat = i - 1 by omega] at hy0; replace hy0 := (P1.out.cell (World.block_lt_of_cell? w0 _ hy0)).trans hy0; have b0 : (0 : Int) < (i : Int) := by omega
    have b1 : decide ((i : Int) > 0) = true := by simp; omega
    cases hkt : (k.f0 == 0)
    ·have HPK := Aside0.mk (show (prevText n.f3 i && k.f0 == 0) = false by rw [hkt, Bool.and_false]); rw [hkt] at HF; go_wp2_with (go_at_call 33; refine (HKi.out w0 _ b B1 d1 B3 d3 d box line li cur G1.out M1.out G3.out M3.out P1.out HT.out SK.out HBb.out P2.out HCU.out HD.out).mono ?_)
     generalize lookN k d box line li cur = r1 at *; obtain ⟨r, c2⟩ := r1; first | (rintro e W2 ⟨rfl, h1⟩; have HW := Aside0.mk h1; clear h1) | (rintro e W2 rfl h1; have HW := Aside0.mk h1; clear h1)
     simp only at HW; cases r
     ·have hr := HF.out; simp only [Bool.and_false, Bool.false_eq_true, if_false] at hr; subst hr; clear HF; go_wp2; go_ret; exact ⟨rfl, HL1.out.trans HW.out⟩
     ·have hr := HF.out; simp only [Bool.and_false, Bool.false_eq_true, if_false, if_true] at hr; have HR2 := Aside0.mk hr; have HC2 := Aside0.mk (HLE.out.2 rfl); clear hr HF; go_wp2; go_roundw
      case rel => exact ⟨i + 1, c2, by go_num, by omega, HC2.out, ⟨HR2.out⟩, ⟨HL1.out.trans HW.out⟩, ⟨HW.out.blk HN1.out HG1.out⟩, ⟨HW.out.blk HN2.out HG2.out⟩⟩
      case measure => simp [intOf]; omega
    ·cases hpt : (k2.f0 == 0)
     ·have HPK := Aside0.mk (show (prevText n.f3 i && k.f0 == 0) = false by rw [HPV.out, hpt, Bool.false_and]); go_wp2_with (go_at_call 33; refine (HKi.out w0 _ b B1 d1 B3 d3 d box line li cur G1.out M1.out G3.out M3.out P1.out HT.out SK.out HBb.out P2.out HCU.out HD.out).mono ?_)
      generalize lookN k d box line li cur = r1 at *; obtain ⟨r, c2⟩ := r1; first | (rintro e W2 ⟨rfl, h1⟩; have HW := Aside0.mk h1; clear h1) | (rintro e W2 rfl h1; have HW := Aside0.mk h1; clear h1)
      simp only at HW; cases r
      ·have hr := HF.out; simp only [HPK.out, Bool.false_eq_true, if_false] at hr; subst hr; clear HF; go_wp2; go_ret; exact ⟨rfl, HL1.out.trans HW.out⟩
      ·have hr := HF.out; simp only [HPK.out, Bool.false_eq_true, if_false, if_true] at hr; have HR2 := Aside0.mk hr; have HC2 := Aside0.mk (HLE.out.2 rfl); clear hr HF; go_wp2; go_roundw
       case rel => exact ⟨i + 1, c2, by go_num, by omega, HC2.out, ⟨HR2.out⟩, ⟨HL1.out.trans HW.out⟩, ⟨HW.out.blk HN1.out HG1.out⟩, ⟨HW.out.blk HN2.out HG2.out⟩⟩
       case measure => simp [intOf]; omega
     ·have hr := HF.out; rw [HPV.out, hpt, hkt] at hr; simp only [Bool.and_self, if_true] at hr; subst hr; clear HF; go_wp2; go_ret; exact ⟨rfl, HL1.out⟩
  ·obtain rfl : i = n.f3.length := by omega
   have hr := hR.out; rw [List.drop_length] at hr; unfold lookK at hr; subst hr; go_wp2; go_ret; exact ⟨rfl, hL.out⟩
end Go.Proofs.YtbbikcmkcgoamaaDoor.Pp
namespace Go.Proofs.YtbbikcmkcgoamaaDoor.Pp
open Go.RowKit Go.Proofs.YtbbikcmkcgoamaaDoorW.PrintWords Go.Proofs.YtbbikcmkcgoamaaDoorW.PrintLast Go.Proofs.YtbbikcmkcgoamaaDoorW.PrintMore
theorem attrsP_len (l : List S47) : (attrsP l).length ≤ 6 * (l.map fun a => 1 + a.f0.size + a.f1.size).sum := by
 induction l with
 | nil => simp [attrsP]
 | cons a l ih =>
  have := charsP_le a.f1 true; simp only [attrsP, List.length_append, List.length_cons, List.length_nil, List.map_cons, List.sum_cons, bl_len]; omega
mutual
theorem nodeP_len : ∀ n : S25, (nodeP n).length ≤ 25 * nsz n
 | ⟨t, l, tx, ks⟩ => by
  have h1 := kidsP_len ks; have h2 := charsP_le tx false; have h3 := attrsP_len l; have h4 := tname_size t; unfold nodeP nsz; split
  ·omega
  ·split
   ·omega
   ·simp only [List.length_append, List.length_cons, List.length_nil, bl_len]; split
    ·simp only [List.length_nil]; omega
    ·simp only [List.length_append, List.length_cons, List.length_nil, bl_len]; omega
theorem kidsP_len : ∀ l : List S25, (kidsP l).length ≤ 25 * nszK l
 | [] => by simp [kidsP]
 | k :: ks => by
  have h1 := nodeP_len k; have h2 := kidsP_len ks; simp only [kidsP, List.length_append, nszK]; omega
end
theorem kidsP_len_n (n : S25) : (kidsP n.f3).length ≤ 25 * nsz n := by
 have h1 := kidsP_len n.f3; have h2 := nsz_eq n; omega
theorem tsz_le : ∀ (N : Nat) (n : S25), nsz n ≤ N → tsz n ≤ nsz n := by
 intro N; induction N with
 | zero => intro n h; have := nsz_pos n; omega
 | succ N ih =>
  intro n h; have h2 := nsz_eq n
  have key : ∀ l : List S25, (∀ k, k ∈ l → tsz k ≤ nsz k) → tszK l ≤ nszK l := by
   intro l; induction l with
   | nil => intro _; simp [tszK]
   | cons k l ihl =>
    intro hk; rw [tszK_cons]; have h3 := hk k (List.mem_cons_self ..); have h4 := ihl (fun x hx => hk x (List.mem_cons_of_mem _ hx)); simp only [nszK]; omega
  have h5 := key n.f3 (fun k hk => ih k (by have := nszK_mem hk; omega)); unfold tsz; omega
end Go.Proofs.YtbbikcmkcgoamaaDoor.Pp
namespace Go.Proofs.YtbbikcmkcgoamaaDoor.Pp
open Go.RowKit Go.Proofs.YtbbikcmkcgoamaaDoorW.PrintWords Go.Proofs.YtbbikcmkcgoamaaDoorW.PrintLast Go.Proofs.YtbbikcmkcgoamaaDoorW.PrintMore
open Go.ChangeShapes Go.WideShapes Go.Deep
theorem bulk_append {H : Type} (l r : List (DataW H)) : Rows.uptoBulkAll (l ++ r) = Rows.uptoBulkAll l + Rows.uptoBulkAll r := by
 induction l with
 | nil => simp [Rows.uptoBulkAll]
 | cons x l ih => simp only [List.cons_append, Rows.uptoBulkAll, ih]; omega
theorem rows_of {α H : Type} (d : Kd α) (w : World) (a : Addr) (D : Nat → DataW H) (m : α → Nat) : ∀ len : Nat,
 (∀ i, i < len → ∃ (p : α) (c : List Value), d.K w p c ∧ m p ≤ Rows.uptoBulk (D i) ∧ ∀ j u, c[j]? = some u → w.cell? (a.add (i * d.sz + j)) = some u) →
 ∃ l : List α, l.length = len ∧ (∀ j p, l[j]? = some p → ∃ c, c.length = d.sz ∧ d.K w p c ∧ ∀ i u, c[i]? = some u → w.cell? (a.add (j * d.sz + i)) = some u) ∧ (l.map m).sum ≤ Rows.uptoBulkAll ((List.range len).map D)
 | 0, _ => ⟨[], rfl, fun j p h => by simp at h, by simp⟩
 | len + 1, h => by
  obtain ⟨l, h1, h2, h3⟩ := rows_of d w a D m len (fun i hi => h i (by omega)); obtain ⟨p, c, h4, h5, h6⟩ := h len (by omega); refine ⟨l ++ [p], by simp [h1], fun j q hq => ?_, ?_⟩
  ·rcases Nat.lt_or_ge j l.length with hj | hj
   ·rw [List.getElem?_append_left hj] at hq; exact h2 j q hq
   ·have hj2 : j = l.length := by
     have := (List.getElem?_eq_some_iff.1 hq).1; simp at this
     omega
    subst hj2; simp only [List.getElem?_concat_length, Option.some.injEq] at hq; subst hq; exact ⟨c, d.K_len h4, h4, fun i u hu => by rw [h1]; exact h6 i u hu⟩
  ·have hr : (List.range (len + 1)).map D = (List.range len).map D ++ [D len] := by rw [List.range_succ, List.map_append]; rfl
   rw [hr, bulk_append]; simp only [List.map_append, List.map_cons, List.map_nil, List.sum_append, List.sum_cons, List.sum_nil, Rows.uptoBulkAll]; omega
section
variable {H : Type} {enc : TypeId × Value → H} {w : World} {base : Nat} {spare : Nat → Bool} {held : Bool}
theorem open_row {α : Type} (d : Kd α) (m : α → Nat) {t e : TypeId} (ht : Tryd.prog.underlying t = some (.slice e)) (hC : Tryd.prog.cellsOf e = d.sz) {fuel : Nat} {cs : List Value} {x : DataW H × List MemPlace} (h : DataW.trod enc Tryd.prog w base spare held fuel t cs = some x)
 (hel : ∀ (n : Nat) (cs' : List Value) (y : DataW H × List MemPlace), Rows.uptoBulk y.1 < Rows.uptoBulk x.1 → DataW.trod enc Tryd.prog w base spare held n e cs' = some y → ∃ p : α, d.K w p cs' ∧ m p ≤ Rows.uptoBulk y.1) :
 ∃ (A : Option Addr) (c : Nat) (l : List α), cs = [.slice A l.length c] ∧ l.length ≤ c ∧ Kd.C d w A l.length l ∧ (l.map m).sum + 1 ≤ Rows.uptoBulk x.1 := by
 rcases open_slice ht h with ⟨rfl, rfl⟩ | ⟨a, len, cap, mm, n, D, Pl, rfl, hb, hl, hm, hmm, rfl, hi⟩
 ·exact ⟨none, 0, [], rfl, Nat.le_refl _, ⟨rfl, by simp, fun h => by simp at h⟩, by simp [Rows.uptoBulk]⟩
 ·have hlm : len ≤ mm := by rw [hmm]; split <;> omega
  have hlt : ∀ i, i < len → Rows.uptoBulk (D i) < Rows.uptoBulk (DataW.slice ((List.range len).map D) ((List.range (mm - len)).map fun j => D (len + j))) := by
   intro i hi2
   have h1 : Rows.uptoBulk (D i) ≤ Rows.uptoBulkAll ((List.range len).map D) := by
    have : D i ∈ (List.range len).map D := List.mem_map.2 ⟨i, List.mem_range.2 hi2, rfl⟩; generalize (List.range len).map D = L at this; induction L with
    | nil => cases this
    | cons y r ih =>
     simp only [Rows.uptoBulkAll]; rcases List.mem_cons.1 this with e | e
     ·subst e; omega
     ·have := ih e; omega
   simp only [Rows.uptoBulk]; omega
  obtain ⟨l, h1, h2, h3⟩ := rows_of d w a D m len (fun i hi2 => by
   obtain ⟨cs', hc, ht'⟩ := hi i (by omega); obtain ⟨p, hp, hmp⟩ := hel n cs' (D i, Pl i) (hlt i hi2) ht'; rw [hC] at hc; obtain ⟨_, hcl, hat⟩ := World.cells?_some hc; refine ⟨p, cs', hp, hmp, fun j u hu => ?_⟩; have hj : j < d.sz := by rw [← hcl]; exact (List.getElem?_eq_some_iff.1 hu).1
   rw [← Deep.add_add, hat j hj, hu])
  subst h1; refine ⟨some a, cap, l, rfl, hl, ⟨rfl, by unfold maxLen at hm; omega, fun _ => ⟨a, rfl, h2⟩⟩, ?_⟩; simp only [Rows.uptoBulk]; omega
set_option maxRecDepth 100000 in
theorem open_attr {fuel : Nat} {cs : List Value} {x : DataW H × List MemPlace} (h : DataW.trod enc Tryd.prog w base spare held fuel 47 cs = some x) : ∃ p : S47, k47.K w p cs ∧ 1 + p.f0.size + p.f1.size ≤ Rows.uptoBulk x.1 := by
 obtain ⟨xs, n, _, rfl, hcl, hlen, hf⟩ := DataW.trod_struct Tryd.underlying47 h; have h2 : cs.length = 2 := hcl.trans (by kernel_rfl); match cs, h2 with
 | [c0, c1], _ =>
  match xs, hlen with
  | [y0, y1], _ =>
   have f0 := hf 0 _ rfl; have f1 := hf 1 _ rfl; have q0 : DataW.trod enc Tryd.prog w base spare held n 9 [c0] = some y0 := f0; have q1 : DataW.trod enc Tryd.prog w base spare held n 9 [c1] = some y1 := f1; obtain ⟨s0, e0, rfl, _⟩ := DataW.trod_string Tryd.underlying9 q0; obtain ⟨s1, e1, rfl, _⟩ := DataW.trod_string Tryd.underlying9 q1; cases e0
   cases e1
   refine ⟨⟨s0, s1⟩, k47_mk w ⟨s0, s1⟩, ?_⟩; have z : ∀ s : ByteArray, s.data.toList.length = s.size := fun s => by rw [Array.length_toList]; rfl
   simp only [List.map_cons, List.map_nil, Rows.uptoBulk, Rows.uptoBulkAll, z]; omega
theorem sum_eq (l : List S25) : (l.map nsz).sum = nszK l := by
 induction l with
 | nil => simp [nszK]
 | cons k l ih => simp only [List.map_cons, List.sum_cons, nszK, ih]
set_option maxRecDepth 100000 in
theorem open_node : ∀ (N : Nat) {fuel : Nat} {cs : List Value} {x : DataW H × List MemPlace}, Rows.uptoBulk x.1 ≤ N → DataW.trod enc Tryd.prog w base spare held fuel 25 cs = some x → ∃ p : S25, k25.K w p cs ∧ nsz p ≤ Rows.uptoBulk x.1 := by
 intro N; induction N with
 | zero =>
  intro fuel cs x hN h; obtain ⟨xs, n, _, rfl, _⟩ := DataW.trod_struct Tryd.underlying25 h; simp only [Rows.uptoBulk] at hN; omega
 | succ N ih =>
  intro fuel cs x hN h; obtain ⟨xs, n, _, rfl, hcl, hlen, hf⟩ := DataW.trod_struct Tryd.underlying25 h; have h2 : cs.length = 4 := hcl.trans (by kernel_rfl); match cs, h2 with
  | [c0, c1, c2, c3], _ =>
   match xs, hlen with
   | [y0, y1, y2, y3], _ =>
    have f0 := hf 0 _ rfl; have f1 := hf 1 _ rfl; have f2 := hf 2 _ rfl; have f3 := hf 3 _ rfl; have q0 : DataW.trod enc Tryd.prog w base spare held n 3 [c0] = some y0 := f0; have q1 : DataW.trod enc Tryd.prog w base spare held n 22 [c1] = some y1 := f1; have q2 : DataW.trod enc Tryd.prog w base spare held n 9 [c2] = some y2 := f2; have q3 : DataW.trod enc Tryd.prog w base spare held n 23 [c3] = some y3 := f3; obtain ⟨t, e0, rfl, _⟩ := DataW.trod_int Tryd.underlying3 q0; obtain ⟨tx, e2, rfl, _⟩ := DataW.trod_string Tryd.underlying9 q2; obtain ⟨A1, d1, l1, e1, g1, r1, s1⟩ := open_row k47 (fun a => 1 + a.f0.size + a.f1.size) Tryd.underlying22 (by kernel_rfl) q1 (fun m cs' y _ hy => open_attr hy); obtain ⟨A3, d3, l3, e3, g3, r3, s3⟩ := open_row k25 nsz Tryd.underlying23 (by kernel_rfl) q3 (fun m cs' y hlt hy => ih (by simp only [List.map_cons, List.map_nil, Rows.uptoBulk, Rows.uptoBulkAll] at hN; omega) hy); cases e0
    cases e1
    cases e2
    cases e3
    refine ⟨⟨t, l1, tx, l3⟩, k25_mk w ⟨t, l1, tx, l3⟩ g1 r1 g3 r3, ?_⟩; have z : ∀ s : ByteArray, s.data.toList.length = s.size := fun s => by rw [Array.length_toList]; rfl
    rw [sum_eq] at s3; simp only [List.map_cons, List.map_nil, Rows.uptoBulk, Rows.uptoBulkAll, z, nsz]; omega
end
end Go.Proofs.YtbbikcmkcgoamaaDoor.Pp
namespace Go.Proofs.YtbbikcmkcgoamaaDoor.Pp
open Go.Shelf
open Go.RowKit Go.Proofs.YtbbikcmkcgoamaaDoorW.PrintWords Go.Proofs.YtbbikcmkcgoamaaDoorW.PrintLast Go.Proofs.YtbbikcmkcgoamaaDoorW.PrintMore
open Go.ChangeShapes Go.WideShapes Go.ChangeAt Go.Lib
theorem own : ownKnob Tryd.prog.godebug = none := by kernel_rfl
theorem laidOut : laidOutB Tryd.prog = true := by kernel_rfl
noncomputable def laidWorld (os : Os) : World :=
 let w0 := World.holding Tryd.prog os ⟨#[], #[], []⟩
 let put (h : Array Obj) (g : Nat) (cs : Array Value) : Array Obj := h.modify g fun
  | .cells _ t frozen => .cells cs t frozen
  | o => o
 let h1 := put w0.heap 0 (Lib.firstTab.map fun z => Value.int .u8 z).toArray
 let h2 := put h1 1 ((List.range 16).flatMap fun i => [Value.int .u8 (Lib.accLo i), Value.int .u8 (Lib.accHi i)]).toArray
 { w0 with heap := h2 }
theorem laid_list : [("unicode/utf8.acceptRanges", (Rows.laid_unicode_utf8_acceptRanges : DataW Unit)), ("unicode/utf8.first", Rows.laid_unicode_utf8_first)] = [("unicode/utf8.acceptRanges", Lib.acceptData), ("unicode/utf8.first", Lib.firstData)] := by kernel_rfl
theorem laid_met (os : Os) (args : Array Value) : laidMet Tryd.prog [("unicode/utf8.acceptRanges", (Rows.laid_unicode_utf8_acceptRanges : DataW Unit)), ("unicode/utf8.first", Rows.laid_unicode_utf8_first)] ((laidWorld os).forCall (fun _ _ => 0) ⟨#[], args, []⟩).memory := by
 rw [laid_list]; exact (LaidIn.of_run (l := [("unicode/utf8.acceptRanges", Lib.acceptData), ("unicode/utf8.first", Lib.firstData)]) [1, 0] 8 (by kernel_rfl) (by kernel_rfl) (by kernel_rfl) (by kernel_rfl)).met
theorem tabs_of {W : World} (h : laidMetH Tryd.prog [("unicode/utf8.acceptRanges", (Rows.laid_unicode_utf8_acceptRanges : DataW Unit)), ("unicode/utf8.first", Rows.laid_unicode_utf8_first)] W) : Tabs W := by
 rw [laid_list] at h; exact utf8Tabs_of_readsT (U8Types.of196 Tryd.lays196) ⟨by kernel_rfl, by kernel_rfl, by kernel_rfl, by kernel_rfl, by kernel_rfl, by kernel_rfl, by kernel_rfl⟩ (Lib.laidMet.reads h (.tail _ (.head _))) (Lib.laidMet.reads h (.head _))
set_option maxRecDepth 100000 in
theorem open_tree {H : Type} {enc : TypeId × Value → H} {W : World} {base : Nat} {v : Value} {d : DataW H} {p : List MemPlace} (hv : Value.okWide Tryd.prog W .any base 25 v) (h : DataW.Trod enc Tryd.prog W 0 (fun _ => true) true 25 v d p) :
 ∃ (n : S25) (A1 : Option Addr) (c1 : Nat) (A3 : Option Addr) (c3 : Nat), v = .agg #[.int .i64 n.f0, .slice A1 n.f1.length c1, .string n.f2, .slice A3 n.f3.length c3] ∧ Kd.C k47 W A1 n.f1.length n.f1 ∧ n.f1.length ≤ c1 ∧ Kd.C k25 W A3 n.f3.length n.f3 ∧ n.f3.length ≤ c3 ∧ nsz n ≤ Rows.uptoBulk d := by
 obtain ⟨cs, rfl, hsz⟩ := okWide_struct Tryd.underlying25 hv; obtain ⟨fuel, hf⟩ := h; obtain ⟨n, hk, hb⟩ := open_node _ (Nat.le_refl _) hf; obtain ⟨A1, c1, A3, c3, e, l1, g1, l3, g3⟩ := k25_open hk; refine ⟨n, A1, c1, A3, c3, ?_, g1, l1, g3, l3, hb⟩; congr 1
 exact Array.toList_inj.1 e
theorem trod_blocks {H : Type} {enc : TypeId × Value → H} {W : World} {t : TypeId} {v : Value} {d : DataW H} {p : List MemPlace} (h : DataW.Trod enc Tryd.prog W 0 (fun _ => true) true t v d p) : ∀ x ∈ p, x.block < W.heap.size := by
 obtain ⟨m, hm⟩ := h; exact DataW.trod_lt m _ _ _ hm
end Go.Proofs.YtbbikcmkcgoamaaDoor.Pp
namespace Go.Proofs.YtbbikcmkcgoamaaDoor.Pp
open Go.RowKit
def okRune (c : Int) : Prop := (0 ≤ c ∧ c < 55296) ∨ (57343 < c ∧ c ≤ 1114111)
theorem bytes_len (s : ByteArray) : s.data.toList.length = s.size := Array.length_toList
theorem decode_ok (s : ByteArray) (pos : Nat) : okRune (Utf8.decode s pos).1 := by
 rw [Lib.decode_at]; have k0 := (s.get! pos).toNat_lt; have k1 := (s.get! (pos + 1)).toNat_lt; have k2 := (s.get! (pos + 2)).toNat_lt; have k3 := (s.get! (pos + 3)).toNat_lt; unfold okRune; rcases Lib.decodeN_shape (s.size - pos) (s.get! pos).toNat (s.get! (pos + 1)).toNat (s.get! (pos + 2)).toNat (s.get! (pos + 3)).toNat with ⟨c, e⟩ | ⟨c1, c2, c3, cv, e⟩ | ⟨c1, c2, c3, c4, cv, cs, e⟩ | ⟨c1, c2, c3, c4, c5, cv, cw, e⟩ | e
 all_goals (rw [e]; dsimp only; omega)
theorem runesFrom_ok (s : ByteArray) : ∀ (n i : Nat), ∀ c ∈ runesFrom s n i, okRune c
 | 0, _, c, h => by simp [runesFrom] at h
 | n + 1, i, c, h => by
  unfold runesFrom at h; split at h
  ·rcases List.mem_cons.1 h with rfl | h
   ·exact decode_ok s i
   ·exact runesFrom_ok s n _ c h
  ·cases h
theorem runesOf_ok (s : ByteArray) : ∀ c ∈ runesOf s, okRune c := runesFrom_ok s _ _
theorem runes_back (s : ByteArray) : ∀ (n i : Nat), s.size - i ≤ n → Lib.validGoD n (s.data.toList.drop i) = true → (runesFrom s n i).flatMap Lib.encodeRune = s.data.toList.drop i
 | 0, i, hn, _ => by
  have : s.data.toList.length ≤ i := by rw [bytes_len]; omega
  rw [List.drop_of_length_le this]; rfl
 | n + 1, i, hn, hv => by
  unfold Lib.validGoD at hv; have hlen := bytes_len s; by_cases hi : i < s.size
  ·have hne : s.data.toList.drop i ≠ [] := by
    intro e; have := congrArg List.length e; simp only [List.length_drop, List.length_nil, hlen] at this; omega
   rw [if_neg hne] at hv; split at hv
   ·cases hv
   ·rename_i hbad
    rw [runesFrom_step s n i hi, List.flatMap_cons]; have e1 := Lib.encode_decode _ hne hbad; rw [Lib.decodeL_drop] at e1 hv; rw [List.drop_drop] at hv; have hw := width_pos s i hi; rw [runes_back s n (i + (Utf8.decode s i).2) (by omega) hv, e1, ← List.drop_drop, List.take_append_drop]
  ·have : s.data.toList.length ≤ i := by omega
   rw [List.drop_of_length_le this, runesFrom_end s (n + 1) i hi]; rfl
end Go.Proofs.YtbbikcmkcgoamaaDoor.Pp
namespace Go.Proofs.YtbbikcmkcgoamaaDoor.Pp
open Go.RowKit Go.Proofs.YtbbikcmkcgoamaaDoorW.PrintWords Go.Proofs.YtbbikcmkcgoamaaDoorW.PrintLast Go.Proofs.YtbbikcmkcgoamaaDoorW.PrintMore
def ints (l : List UInt8) : List Int := l.map fun b => (b.toNat : Int)
theorem ints_append (a b : List UInt8) : ints (a ++ b) = ints a ++ ints b := by simp [ints]
theorem ints_len (a : List UInt8) : (ints a).length = a.length := by simp [ints]
theorem bytesOf_ints (s : ByteArray) : bytesOf s = ints (bl s) := rfl
theorem strOf_ints (l : List UInt8) : strOfNums (ints l) = ⟨l.toArray⟩ := by
 simp [strOfNums, ints, Function.comp_def]
def quillworkref16_Outer_at (M : Nat) (k : Nat) (a0_0 : Int) (l0_1 : List S47) (a0_2 : ByteArray) (l0_3 : List S25) : Option (List Int) :=
 if nsz ⟨a0_0, l0_1, a0_2, l0_3⟩ ≤ M ∧ M ≤ 1000000000000 then some (ints (nodeP ⟨a0_0, l0_1, a0_2, l0_3⟩)) else none
def quillworkref16_Inner_at (M : Nat) (k : Nat) (a0_0 : Int) (l0_1 : List S47) (a0_2 : ByteArray) (l0_3 : List S25) : Option (List Int) :=
 if nsz ⟨a0_0, l0_1, a0_2, l0_3⟩ ≤ M ∧ M ≤ 1000000000000 then some (ints (innerP ⟨a0_0, l0_1, a0_2, l0_3⟩)) else none
theorem quillworkref16_Outer_at.mono (M : Nat) (a0 : Int) (a1 : List S47) (a2 : ByteArray) (a3 : List S25) (k : Nat) : LeO (quillworkref16_Outer_at M k a0 a1 a2 a3) (quillworkref16_Outer_at M (k + 1) a0 a1 a2 a3) := LeO.refl _
theorem quillworkref16_Inner_at.mono (M : Nat) (a0 : Int) (a1 : List S47) (a2 : ByteArray) (a3 : List S25) (k : Nat) : LeO (quillworkref16_Inner_at M k a0 a1 a2 a3) (quillworkref16_Inner_at M (k + 1) a0 a1 a2 a3) := LeO.refl _
end Go.Proofs.YtbbikcmkcgoamaaDoor.Pp
namespace Go.Proofs.YtbbikcmkcgoamaaDoor.Pp
open Go.RowKit Go.Proofs.YtbbikcmkcgoamaaDoorW.PrintWords Go.Proofs.YtbbikcmkcgoamaaDoorW.PrintLast Go.Proofs.YtbbikcmkcgoamaaDoorW.PrintMore Go.Proofs.YtbbikcmkcgoamaaDoor.My
theorem Cv.C_runes {P : Program} {W : World} {src dst e : TypeId} {A : Option Addr} {n c : Nat} {rs : List Int} (hs : P.underlying src = some (.slice e)) (he : P.underlying e = some (.int .i32)) (hd : P.underlying dst = some .string)
 (hC : (Kd.int .i32).C W A n rs) : (convert src dst (.slice A n c)).run P W = .ok (.string (runesBytes rs)) W := by
 obtain ⟨h1, h2, h3⟩ := hC; rcases Nat.eq_zero_or_pos n with h0 | h0
 ·subst h0; have : rs = [] := List.eq_nil_of_length_eq_zero h1; subst this; cases A with
  | none => exact run_convert_runes_nil W src dst e _ _ hs he hd
  | some ad => exact run_convert_runes W src dst e ad 0 c [] (Nat.le_refl _) hs he hd (fun j hj => absurd hj (by simp))
 ·obtain ⟨ad, rfl, hc⟩ := h3 h0
  have := run_convert_runes (P := P) W src dst e ad n c rs (by omega) hs he hd (fun j hj => by
   obtain ⟨cc, _, hcc, hce⟩ := hc j rs[j] (List.getElem?_eq_getElem hj); obtain rfl : cc = [.int .i32 rs[j]] := hcc; have := hce 0 _ rfl; rw [List.getD_eq_getElem?_getD, List.getElem?_eq_getElem hj]; simpa [Kd.int, Kd.scalar] using this)
  rwa [← h1, List.take_length, h1] at this
theorem Cv.own_runes {P : Program} {W : World} {src dst e e2 base : Nat} {ok : Nat → Prop} {v : Value} {rs : List Int} (hs : P.underlying src = some (.slice e)) (he : P.underlying e = some (.int .i32)) (hd : P.underlying dst = some .string)
 (h : (Kd.int .i32).R e2 W base ok v rs) : (convert src dst v).run P W = .ok (.string (runesBytes rs)) W := by
 obtain ⟨A, c', rfl, _, hC⟩ := Kd.R_reads h; exact Cv.C_runes hs he hd hC
section
variable {P : Program} {ops : Array Oper} {rest : List Oper} {o : Oper} {a : Act} {Q : Exit → Act → World → Prop}
end
end Go.Proofs.YtbbikcmkcgoamaaDoor.Pp
namespace Go.Proofs.YtbbikcmkcgoamaaDoor.Pp
open Go.RowKit Go.Proofs.YtbbikcmkcgoamaaDoorW.PrintWords Go.Proofs.YtbbikcmkcgoamaaDoorW.PrintLast Go.Proofs.YtbbikcmkcgoamaaDoorW.PrintMore Go.Proofs.YtbbikcmkcgoamaaDoor.My
def lineUp : List Int → Bool
 | [] => false
 | [_] => false
 | x :: y :: r => if 2 ≤ x ∧ x ≤ 5 then true else if tclass x = 2 ∨ x = 9 then false else lineUp (y :: r)
def liUp : List Int → Bool
 | [] => false
 | [_] => false
 | x :: y :: r => if x = 7 ∨ x = 8 then false else if x = 9 then true else liUp (y :: r)
def blankB (b : UInt8) : Bool := b == 9 || b == 10 || b == 12 || b == 13 || b == 32
def textR (l : List S47) (tx : ByteArray) (ks : List S25) (box : Bool) : Bool :=
 l.isEmpty && (ks.isEmpty && (!tx.toList.isEmpty && (((anewB tx).toList == tx.toList) && !(tx.data.toList.all blankB && box))))
mutual
def normR : S25 → List Int → Bool
 | ⟨t, l, tx, ks⟩, up => decide (up.length ≤ 40) && (if t = 0 then textR l tx ks (tclass (up.headD 0) == 2) else
  decide (tclass t ≠ 0) && (tx.toList.isEmpty && (mayOk l && (!(tclass t == 5 && decide (0 < ks.length)) && (!((tclass t == 2 || tclass t == 3) && lineUp up) && (!(t == 9 && liUp up) && kidsR ks false (t :: up)))))))
def kidsR : List S25 → Bool → List Int → Bool
 | [], _, _ => true
 | k :: r, prev, up => !(prev && k.f0 == 0) && (normR k up && kidsR r (k.f0 == 0) up)
end
def quillworkref16_normal_at (M : Nat) (k : Nat) (a0_0 : Int) (l0_1 : List S47) (a0_2 : ByteArray) (l0_3 : List S25) (l1 : List Int) : Option Bool :=
 if nsz ⟨a0_0, l0_1, a0_2, l0_3⟩ ≤ M ∧ M ≤ 70368744177664 ∧ 0 < l1.length ∧ l1.length ≤ 70368744177 then some (normR ⟨a0_0, l0_1, a0_2, l0_3⟩ l1.reverse) else none
def quillworkref16_kids_at (M : Nat) (k : Nat) (a0_0 : Int) (l0_1 : List S47) (a0_2 : ByteArray) (l0_3 : List S25) (l1 : List Int) : Option Bool :=
 if nsz ⟨a0_0, l0_1, a0_2, l0_3⟩ ≤ M ∧ M ≤ 70368744177664 ∧ 0 < l1.length ∧ l1.length ≤ 70368744177 then some (kidsR l0_3 false l1.reverse) else none
theorem quillworkref16_normal_at.mono (M : Nat) (a0 : Int) (a1 : List S47) (a2 : ByteArray) (a3 : List S25) (a4 : List Int) (k : Nat) : LeO (quillworkref16_normal_at M k a0 a1 a2 a3 a4) (quillworkref16_normal_at M (k + 1) a0 a1 a2 a3 a4) := LeO.refl _
theorem quillworkref16_kids_at.mono (M : Nat) (a0 : Int) (a1 : List S47) (a2 : ByteArray) (a3 : List S25) (a4 : List Int) (k : Nat) : LeO (quillworkref16_kids_at M k a0 a1 a2 a3 a4) (quillworkref16_kids_at M (k + 1) a0 a1 a2 a3 a4) := LeO.refl _
end Go.Proofs.YtbbikcmkcgoamaaDoor.Pp
namespace Go.Proofs.YtbbikcmkcgoamaaDoor.Pp
open Go.RowKit Go.Proofs.YtbbikcmkcgoamaaDoorW.PrintWords Go.Proofs.YtbbikcmkcgoamaaDoorW.PrintLast Go.Proofs.YtbbikcmkcgoamaaDoorW.PrintMore
attribute [local go_sem] max2_int min2_int max_two min_two max_three min_three max_four min_four
def quillworkref16_kids.l0 (M : Nat) : Nat → List Int → Int → Int → List (S47) → ByteArray → List (S25) → Option (Bool)
 | 0, _, _, _, _, _, _ => none
 | k + 1, x1, x5, x262000, x262001, x262002, x262003 => if x5 < (x262003.length : Int) then (if x5 > 0 then (if 0 ≤ x5 then (if ((rd_T25 x262003 x5).f0) = 0 then (if 0 ≤ (wrap64 (x5 - 1)) then (if (wrap64 (x5 - 1)) < (x262003.length : Int) then (if ((rd_T25 x262003 (wrap64 (x5 - 1))).f0) = 0 then (some false) else ((quillworkref16_normal_at M k ((rd_T25 x262003 x5).f0) ((rd_T25 x262003 x5).f1) ((rd_T25 x262003 x5).f2) ((rd_T25 x262003 x5).f3) x1).bind fun t265 => (if t265 = true then (quillworkref16_kids.l0 M k x1 (wrap64 (x5 + 1)) x262000 x262001 x262002 x262003) else (some false)))) else (none)) else (none)) else ((quillworkref16_normal_at M k ((rd_T25 x262003 x5).f0) ((rd_T25 x262003 x5).f1) ((rd_T25 x262003 x5).f2) ((rd_T25 x262003 x5).f3) x1).bind fun t267 => (if t267 = true then (quillworkref16_kids.l0 M k x1 (wrap64 (x5 + 1)) x262000 x262001 x262002 x262003) else (some false)))) else (none)) else (if 0 ≤ x5 then ((quillworkref16_normal_at M k ((rd_T25 x262003 x5).f0) ((rd_T25 x262003 x5).f1) ((rd_T25 x262003 x5).f2) ((rd_T25 x262003 x5).f3) x1).bind fun t269 => (if t269 = true then (quillworkref16_kids.l0 M k x1 (wrap64 (x5 + 1)) x262000 x262001 x262002 x262003) else (some false))) else (none))) else (some true)
def quillworkref16_kids.f (M : Nat) (k : Nat) (a0_0 : Int) (l0_1 : List (S47)) (a0_2 : ByteArray) (l0_3 : List (S25)) (l1 : List Int) : Option (Bool) := quillworkref16_kids.l0 M k l1 0 a0_0 l0_1 a0_2 l0_3
theorem quillworkref16_kids.mono_l (M : Nat) : ∀ k, (∀ y0 y1 y2 y3 y4 y5, LeO (quillworkref16_kids.l0 M k y0 y1 y2 y3 y4 y5) (quillworkref16_kids.l0 M (k + 1) y0 y1 y2 y3 y4 y5))
 | 0 => fun _ _ _ _ _ _ r h => by simp [quillworkref16_kids.l0] at h
 | k + 1 => by
  have ih0 := quillworkref16_kids.mono_l M k
  ·intro y0 y1 y2 y3 y4 y5; unfold quillworkref16_kids.l0
   repeat' first
   | (with_reducible exact ih0 _ _ _ _ _ _)
   | (with_reducible exact quillworkref16_normal_at.mono M _ _ _ _ _ _)
   | (with_reducible exact LeO.refl _)
   | (with_reducible exact LeO.none _)
   | (with_reducible refine LeO.ite ?_ ?_)
   | (with_reducible refine LeO.bind ?_ (fun _ => ?_))
   | exact ih0 _ _ _ _ _ _
   | exact quillworkref16_normal_at.mono M _ _ _ _ _ _
   | exact LeO.none _
   | refine LeO.ite ?_ ?_
   | refine LeO.bind ?_ (fun _ => ?_)
theorem quillworkref16_kids.mono (M : Nat) : ∀ a0 a1 a2 a3 a4 k, LeO (quillworkref16_kids.f M k a0 a1 a2 a3 a4) (quillworkref16_kids.f M (k + 1) a0 a1 a2 a3 a4) := by
 intro a0 a1 a2 a3 a4 k; have ih0 := quillworkref16_kids.mono_l M k; unfold quillworkref16_kids.f
 repeat' first
  | (with_reducible exact ih0 _ _ _ _ _ _)
  | (with_reducible exact quillworkref16_normal_at.mono M _ _ _ _ _ _)
  | (with_reducible exact LeO.refl _)
  | (with_reducible exact LeO.none _)
  | (with_reducible refine LeO.ite ?_ ?_)
  | (with_reducible refine LeO.bind ?_ (fun _ => ?_))
  | exact ih0 _ _ _ _ _ _
  | exact quillworkref16_normal_at.mono M _ _ _ _ _ _
  | exact LeO.none _
  | refine LeO.ite ?_ ?_
  | refine LeO.bind ?_ (fun _ => ?_)
set_option maxHeartbeats 8000000 in
set_option maxRecDepth 100000 in
theorem quillworkref16_kids.calls (M : Nat) (Hnormal : Aside0 (∀ (k : Nat) (a0_0 : Int) (A0_1 : Option Addr) (c0_1 : Nat) (l0_1 : List (S47)) (a0_2 : ByteArray) (A0_3 : Option Addr) (c0_3 : Nat) (l0_3 : List (S25)) (A1 : Option Addr) (c1 : Nat) (l1 : List Int) (r : Bool) (w : World) (hr0_1 : Kd.C k47 w A0_1 l0_1.length l0_1) (hc0_1 : l0_1.length ≤ c0_1) (hr0_3 : Kd.C k25 w A0_3 l0_3.length l0_3) (hc0_3 : l0_3.length ≤ c0_3) (hr1 : Kd.C (Kd.int .i64) w A1 l1.length l1) (hc1 : l1.length ≤ c1) (h : quillworkref16_normal_at M k a0_0 l0_1 a0_2 l0_3 l1 = some r), Calls Tryd.prog 34 #[.agg #[.int .i64 a0_0, .slice A0_1 l0_1.length c0_1, .string a0_2, .slice A0_3 l0_3.length c0_3], .slice A1 l1.length c1] w fun e w' => e = .returned (.bool r) ∧ Below w.heap.size w w')) (k : Nat) (a0_0 : Int) (A0_1 : Option Addr) (c0_1 : Nat) (l0_1 : List (S47)) (a0_2 : ByteArray) (A0_3 : Option Addr) (c0_3 : Nat) (l0_3 : List (S25)) (A1 : Option Addr) (c1 : Nat) (l1 : List Int) (r : Bool) (w : World) (hr0_1 : Kd.C k47 w A0_1 l0_1.length l0_1) (hc0_1 : l0_1.length ≤ c0_1) (hr0_3 : Kd.C k25 w A0_3 l0_3.length l0_3) (hc0_3 : l0_3.length ≤ c0_3) (hr1 : Kd.C (Kd.int .i64) w A1 l1.length l1) (hc1 : l1.length ≤ c1) (h : quillworkref16_kids.f M k a0_0 l0_1 a0_2 l0_3 l1 = some r) :
 Calls Tryd.prog 25 #[.agg #[.int .i64 a0_0, .slice A0_1 l0_1.length c0_1, .string a0_2, .slice A0_3 l0_3.length c0_3], .slice A1 l1.length c1] w fun e w' => e = .returned (.bool r) ∧ Below w.heap.size w w' := by
 have hu25 := Tryd.underlying25; have HR0_1 := Aside0.mk hr0_1; have HC0_1 := Aside0.mk hc0_1; clear hr0_1 hc0_1; have HR0_3 := Aside0.mk hr0_3; have HC0_3 := Aside0.mk hc0_3; clear hr0_3 hc0_3; have HR1 := Aside0.mk hr1; have HC1 := Aside0.mk hc1; clear hr1 hc1; have HB := Aside0.mk (Below.refl w.heap.size w); have H : (quillworkref16_kids.l0 M k l1 0 a0_0 l0_1 a0_2 l0_3) = some r := h; clear h; have H' := Aside0.mk H; clear H; go_enter Tryd.func25, Tryd.ntmps25
 go_wp2_with (first | ((with_reducible refine gate_dst (N := 2) rfl ?_); refine box_event ?hg (N := 2) ?hd (cs := #[.int .i64 a0_0, .slice A0_1 l0_1.length c0_1, .string a0_2, .slice A0_3 l0_3.length c0_3]) (t := 25) ?hr ?_; (case hd => rfl); (case hg => rfl); (case hr => first | (go_simp; done) | (go_simp; rfl)); intro gb261 hg w3 hbox hb; have n0_ := Aside0.mk (below_step (by repeat (first | (with_reducible first | exact HB.out | apply below_alloc | apply pw_below_drewN | apply below_drew1) | exact HB.out)) hb); have n1_ := Aside0.mk (hbox); have n2_ := Aside0.mk ((by rw [hg]; exact (below_size (by repeat (first | (with_reducible first | exact HB.out | apply below_alloc | apply pw_below_drewN | apply below_drew1) | exact HB.out))) : w.heap.size ≤ gb261)); have n3_ := Aside0.mk ((by rw [hg]; exact (below_size (by repeat (first | (with_reducible first | exact HB.out | apply below_alloc | apply pw_below_drewN | apply below_drew1) | exact HB.out))) : w.heap.size ≤ gb261)); clear HB; have HB := n0_; have BK261 := n1_; have GW261 := n2_; have GE261 := n3_; clear n0_ n1_ n2_ n3_; clear hb hbox hg))
 go_loopg [5] k (fun kq v5 w' => ∃ (x5_1 : Int), v5 = .int .i64 x5_1 ∧ Aside0 (quillworkref16_kids.l0 M kq l1 x5_1 a0_0 l0_1 a0_2 l0_3 = some r) ∧ Aside0 (kq ≤ k) ∧ Aside0 (w'.heap[gb261]? = some (.cells #[.int .i64 a0_0, (.slice A0_1 l0_1.length c0_1), .string a0_2, (.slice A0_3 l0_3.length c0_3)] 25 (0, 0))) ∧ Aside0 (Below w.heap.size w w'))
 case atStart => exact ⟨(0), (by first | rfl | (simp; done) | (simp [*]; done)), H', ⟨Nat.le_refl _⟩, ⟨by (with_reducible repeat (first | refine blk_drewN ?_ _ | refine blk_drew ?_ | refine blk_alloc ?_ _)); exact BK261.out⟩, ⟨by repeat (first | (with_reducible first | exact HB.out | apply below_alloc | apply pw_below_drewN | apply below_drew1 | refine below_set ?_ GE261.out) | exact HB.out)⟩⟩
 case round =>
  clear H'; try clear c1
  try clear c2
  try clear p2
  obtain ⟨x5_1, rfl, HA, HK1, BK261, HB⟩ := hrel; cases gk with
  | zero => exact absurd HA.out (by simp [quillworkref16_kids.l0])
  | succ k1 =>
   have H := HA.out; clear HA; simp only [quillworkref16_kids.l0] at H; by_cases c4 : x5_1 < (l0_3.length : Int)
   ·rw [if_pos c4] at H; have c4b0 : decide (x5_1 < (l0_3.length : Int)) = true := decide_eq_true c4; clear c4; by_cases c5 : x5_1 > 0
    ·rw [if_pos c5] at H; have c5b0 : decide (0 < x5_1) = true := decide_eq_true c5; clear c5; by_cases c6 : 0 ≤ x5_1
     ·rw [if_pos c6] at H; have c6b0 : decide (0 ≤ x5_1) = true := decide_eq_true c6; clear c6; by_cases c7 : ((rd_T25 l0_3 x5_1).f0) = 0
      ·rw [if_pos c7] at H; have c7b0 : (((rd_T25 l0_3 x5_1).f0) == 0) = true := beq_iff_eq.mpr c7; have c7b1 : (((rd_T25 l0_3 x5_1).f0) != 0) = false := bne_eq_false_iff_eq.mpr c7; clear c7; obtain ⟨ji8, hji8⟩ : ∃ j_ : Int, (wrap64 (x5_1 - 1)) = j_ := ⟨_, rfl⟩; replace H : (if 0 ≤ (ji8) then (if (ji8) < (l0_3.length : Int) then (if ((rd_T25 l0_3 (ji8)).f0) = 0 then (some false) else ((quillworkref16_normal_at M k1 ((rd_T25 l0_3 x5_1).f0) ((rd_T25 l0_3 x5_1).f1) ((rd_T25 l0_3 x5_1).f2) ((rd_T25 l0_3 x5_1).f3) l1).bind fun t265 => (if t265 = true then (quillworkref16_kids.l0 M k1 l1 (wrap64 (x5_1 + 1)) a0_0 l0_1 a0_2 l0_3) else (some false)))) else (none)) else (none)) = some r := by first | (rw [hji8] at H; exact H) | (simp only [hji8] at H ⊢; exact H)
       have hji8w : (IntKind.i64.wrap (x5_1 - 1)) = ji8 := (i64_w _).trans hji8; by_cases c9 : 0 ≤ (ji8)
       ·rw [if_pos c9] at H; have c9b0 : decide (0 ≤ (ji8)) = true := decide_eq_true c9; clear c9; by_cases c10 : (ji8) < (l0_3.length : Int)
        ·rw [if_pos c10] at H; have c10b0 : decide ((ji8) < (l0_3.length : Int)) = true := decide_eq_true c10; clear c10; by_cases c11 : ((rd_T25 l0_3 (ji8)).f0) = 0
         ·rw [if_pos c11] at H; have c11b0 : (((rd_T25 l0_3 (ji8)).f0) == 0) = true := beq_iff_eq.mpr c11; have c11b1 : (((rd_T25 l0_3 (ji8)).f0) != 0) = false := bne_eq_false_iff_eq.mpr c11; clear c11; obtain rfl := Option.some.inj H; have hcz12_0 : wr.cell? ⟨gb261, 0, none⟩ = some (.int .i64 a0_0) := (blk_cell BK261.out 0).trans rfl; have hcz12_1 : wr.cell? ⟨gb261, 1, none⟩ = some (.slice A0_1 l0_1.length c0_1) := (blk_cell BK261.out 1).trans rfl; have hcz12_2 : wr.cell? ⟨gb261, 2, none⟩ = some (.string a0_2) := (blk_cell BK261.out 2).trans rfl; have hcz12_3 : wr.cell? ⟨gb261, 3, none⟩ = some (.slice A0_3 l0_3.length c0_3) := (blk_cell BK261.out 3).trans rfl; have hfz12_0 := blk_frozen BK261.out 0; have hfz12_1 := blk_frozen BK261.out 1; have hfz12_2 := blk_frozen BK261.out 2; have hfz12_3 := blk_frozen BK261.out 3; have p262 : 0 ≤ (x5_1 : Int) := of_decide_eq_true (by first | (with_reducible assumption) | assumption); have q262 : x5_1 < (l0_3.length : Int) := of_decide_eq_true (by first | (with_reducible assumption) | assumption); obtain ⟨ad262, A262_1, c262_1, A262_3, c262_3, e262, hx262_0, hx262_1, hx262_2, hx262_3, hl262_1, hi262_1, hl262_3, hi262_3⟩ := at_T25 HR0_3.out x5_1 p262 q262; cases e262
          replace hx262_0 := (HB.out.cell (World.block_lt_of_cell? w _ hx262_0)).trans hx262_0; replace hx262_1 := (HB.out.cell (World.block_lt_of_cell? w _ hx262_1)).trans hx262_1; replace hx262_2 := (HB.out.cell (World.block_lt_of_cell? w _ hx262_2)).trans hx262_2; replace hx262_3 := (HB.out.cell (World.block_lt_of_cell? w _ hx262_3)).trans hx262_3; have HR262_1 := Aside0.mk hi262_1; have HC262_1 := Aside0.mk hl262_1; clear hi262_1 hl262_1; have HR262_3 := Aside0.mk hi262_3; have HC262_3 := Aside0.mk hl262_3; clear hi262_3 hl262_3; replace p262 := eq_true p262; replace q262 := eq_true q262; have p263 : 0 ≤ ((ji8) : Int) := of_decide_eq_true (by first | (with_reducible assumption) | assumption); have q263 : (ji8) < (l0_3.length : Int) := of_decide_eq_true (by first | (with_reducible assumption) | assumption); obtain ⟨ad263, A263_1, c263_1, A263_3, c263_3, e263, hx263_0, hx263_1, hx263_2, hx263_3, hl263_1, hi263_1, hl263_3, hi263_3⟩ := at_T25 HR0_3.out (ji8) p263 q263; obtain rfl : ad262 = ad263 := (by injection e263); replace hx263_0 := (HB.out.cell (World.block_lt_of_cell? w _ hx263_0)).trans hx263_0; replace hx263_1 := (HB.out.cell (World.block_lt_of_cell? w _ hx263_1)).trans hx263_1; replace hx263_2 := (HB.out.cell (World.block_lt_of_cell? w _ hx263_2)).trans hx263_2; replace hx263_3 := (HB.out.cell (World.block_lt_of_cell? w _ hx263_3)).trans hx263_3; have HR263_1 := Aside0.mk hi263_1; have HC263_1 := Aside0.mk hl263_1; clear hi263_1 hl263_1; have HR263_3 := Aside0.mk hi263_3; have HC263_3 := Aside0.mk hl263_3; clear hi263_3 hl263_3; replace p263 := eq_true p263; replace q263 := eq_true q263; go_wp2; go_ret; exact ⟨by first | rfl | (simp [errW_none, errW_some] <;> rfl) | (simp only [← hji8]; first | rfl | (simp [errW_none, errW_some] <;> rfl)) | (simp [*, errW_none, errW_some] <;> rfl), by repeat (first | (with_reducible first | exact HB.out | apply below_alloc | apply pw_below_drewN | apply below_drew1 | refine below_set ?_ GE261.out) | exact HB.out)⟩
         ·rw [if_neg c11] at H; have c11b0 : (((rd_T25 l0_3 (ji8)).f0) == 0) = false := beq_eq_false_iff_ne.mpr c11; have c11b1 : (((rd_T25 l0_3 (ji8)).f0) != 0) = true := bne_iff_ne.mpr c11; replace H := Option.bind_eq_some_iff.mp H; obtain ⟨t265, A130, H⟩ := H; replace H : (if t265 = true then (quillworkref16_kids.l0 M k1 l1 (wrap64 (x5_1 + 1)) a0_0 l0_1 a0_2 l0_3) else (some false)) = some r := H; have A13 := Aside0.mk A130; clear A130; by_cases c14 : t265 = true
          ·subst c14; have H1 : (quillworkref16_kids.l0 M k1 l1 (wrap64 (x5_1 + 1)) a0_0 l0_1 a0_2 l0_3) = some r := by rw [if_pos rfl] at H; exact H
           clear H; have H := H1; clear H1; have H' := Aside0.mk H; clear H; have hcz15_0 : wr.cell? ⟨gb261, 0, none⟩ = some (.int .i64 a0_0) := (blk_cell BK261.out 0).trans rfl; have hcz15_1 : wr.cell? ⟨gb261, 1, none⟩ = some (.slice A0_1 l0_1.length c0_1) := (blk_cell BK261.out 1).trans rfl; have hcz15_2 : wr.cell? ⟨gb261, 2, none⟩ = some (.string a0_2) := (blk_cell BK261.out 2).trans rfl; have hcz15_3 : wr.cell? ⟨gb261, 3, none⟩ = some (.slice A0_3 l0_3.length c0_3) := (blk_cell BK261.out 3).trans rfl; have hfz15_0 := blk_frozen BK261.out 0; have hfz15_1 := blk_frozen BK261.out 1; have hfz15_2 := blk_frozen BK261.out 2; have hfz15_3 := blk_frozen BK261.out 3; have p262 : 0 ≤ (x5_1 : Int) := of_decide_eq_true (by first | (with_reducible assumption) | assumption); have q262 : x5_1 < (l0_3.length : Int) := of_decide_eq_true (by first | (with_reducible assumption) | assumption); obtain ⟨ad262, A262_1, c262_1, A262_3, c262_3, e262, hx262_0, hx262_1, hx262_2, hx262_3, hl262_1, hi262_1, hl262_3, hi262_3⟩ := at_T25 HR0_3.out x5_1 p262 q262; cases e262
           replace hx262_0 := (HB.out.cell (World.block_lt_of_cell? w _ hx262_0)).trans hx262_0; replace hx262_1 := (HB.out.cell (World.block_lt_of_cell? w _ hx262_1)).trans hx262_1; replace hx262_2 := (HB.out.cell (World.block_lt_of_cell? w _ hx262_2)).trans hx262_2; replace hx262_3 := (HB.out.cell (World.block_lt_of_cell? w _ hx262_3)).trans hx262_3; have HR262_1 := Aside0.mk hi262_1; have HC262_1 := Aside0.mk hl262_1; clear hi262_1 hl262_1; have HR262_3 := Aside0.mk hi262_3; have HC262_3 := Aside0.mk hl262_3; clear hi262_3 hl262_3; replace p262 := eq_true p262; replace q262 := eq_true q262; have p263 : 0 ≤ ((ji8) : Int) := of_decide_eq_true (by first | (with_reducible assumption) | assumption); have q263 : (ji8) < (l0_3.length : Int) := of_decide_eq_true (by first | (with_reducible assumption) | assumption); obtain ⟨ad263, A263_1, c263_1, A263_3, c263_3, e263, hx263_0, hx263_1, hx263_2, hx263_3, hl263_1, hi263_1, hl263_3, hi263_3⟩ := at_T25 HR0_3.out (ji8) p263 q263; obtain rfl : ad262 = ad263 := (by injection e263); replace hx263_0 := (HB.out.cell (World.block_lt_of_cell? w _ hx263_0)).trans hx263_0; replace hx263_1 := (HB.out.cell (World.block_lt_of_cell? w _ hx263_1)).trans hx263_1; replace hx263_2 := (HB.out.cell (World.block_lt_of_cell? w _ hx263_2)).trans hx263_2; replace hx263_3 := (HB.out.cell (World.block_lt_of_cell? w _ hx263_3)).trans hx263_3; have HR263_1 := Aside0.mk hi263_1; have HC263_1 := Aside0.mk hl263_1; clear hi263_1 hl263_1; have HR263_3 := Aside0.mk hi263_3; have HC263_3 := Aside0.mk hl263_3; clear hi263_3 hl263_3; replace p263 := eq_true p263; replace q263 := eq_true q263; have p264 : 0 ≤ (x5_1 : Int) := of_decide_eq_true (by first | (with_reducible assumption) | assumption); have q264 : x5_1 < (l0_3.length : Int) := of_decide_eq_true (by first | (with_reducible assumption) | assumption); obtain ⟨ad264, A264_1, c264_1, A264_3, c264_3, e264, hx264_0, hx264_1, hx264_2, hx264_3, hl264_1, hi264_1, hl264_3, hi264_3⟩ := at_T25 HR0_3.out x5_1 p264 q264; obtain rfl : ad262 = ad264 := (by injection e264); replace hx264_0 := (HB.out.cell (World.block_lt_of_cell? w _ hx264_0)).trans hx264_0; replace hx264_1 := (HB.out.cell (World.block_lt_of_cell? w _ hx264_1)).trans hx264_1; replace hx264_2 := (HB.out.cell (World.block_lt_of_cell? w _ hx264_2)).trans hx264_2; replace hx264_3 := (HB.out.cell (World.block_lt_of_cell? w _ hx264_3)).trans hx264_3; have HR264_1 := Aside0.mk hi264_1; have HC264_1 := Aside0.mk hl264_1; clear hi264_1 hl264_1; have HR264_3 := Aside0.mk hi264_3; have HC264_3 := Aside0.mk hl264_3; clear hi264_3 hl264_3; replace p264 := eq_true p264; replace q264 := eq_true q264; have ea_ := Option.some.inj (hx262_1.symm.trans hx264_1); injection ea_ with ea_ en_ ec_
           subst ea_; subst ec_; clear en_; have ea_ := Option.some.inj (hx262_3.symm.trans hx264_3); injection ea_ with ea_ en_ ec_
           subst ea_; subst ec_; clear en_; go_wp2_with (first | (go_at_call 34; (with_reducible refine (Hnormal.out k1 ((rd_T25 l0_3 x5_1).f0) _ _ ((rd_T25 l0_3 x5_1).f1) ((rd_T25 l0_3 x5_1).f2) _ _ ((rd_T25 l0_3 x5_1).f3) _ _ l1 true _ ?side1 ?side2 ?side3 ?side4 ?side5 ?side6 A13.out).mono ?_); (case side1 => repeat (first | exact (Kd.C_below HR264_1.out HB.out) | (with_reducible refine Kd.C_alloc ?_ _) | (with_reducible refine Kd.C_drewN ?_ _) | (with_reducible refine Kd.C_drew ?_))); (case side2 => exact HC264_1.out); (case side3 => repeat (first | exact (Kd.C_below HR264_3.out HB.out) | (with_reducible refine Kd.C_alloc ?_ _) | (with_reducible refine Kd.C_drewN ?_ _) | (with_reducible refine Kd.C_drew ?_))); (case side4 => exact HC264_3.out); (case side5 => repeat (first | exact (Kd.C_below HR1.out HB.out) | (with_reducible refine Kd.C_alloc ?_ _) | (with_reducible refine Kd.C_drewN ?_ _) | (with_reducible refine Kd.C_drew ?_))); (case side6 => exact HC1.out); rintro e w16 ⟨rfl, hb⟩; have n0_ := Aside0.mk (blk_below (g := gb261) (o := .cells #[.int .i64 a0_0, .slice A0_1 l0_1.length c0_1, .string a0_2, .slice (some ad262) l0_3.length c0_3] 25 (0, 0)) (by (with_reducible repeat (first | refine blk_drewN ?_ _ | refine blk_drew ?_ | refine blk_alloc ?_ _)); exact BK261.out) hb); have n1_ := Aside0.mk (below_step (by repeat (first | (with_reducible first | exact HB.out | apply below_alloc | apply pw_below_drewN | apply below_drew1 | refine below_set ?_ GE261.out) | exact HB.out)) hb); clear BK261; clear HB; have BK261 := n0_; have HB := n1_; clear n0_ n1_; (try clear hb); (try clear hb2); (try clear hk); (try clear hi)))
           go_roundg k1
           case measure => have := HK1.out; omega
           case rel => exact ⟨(wrap64 (x5_1 + 1)), (by first | rfl | (simp; done) | (simp [*]; done)), H', ⟨by have := HK1.out; omega⟩, ⟨by (with_reducible repeat (first | refine blk_drewN ?_ _ | refine blk_drew ?_ | refine blk_alloc ?_ _)); exact BK261.out⟩, ⟨by repeat (first | (with_reducible first | exact HB.out | apply below_alloc | apply pw_below_drewN | apply below_drew1 | refine below_set ?_ GE261.out) | exact HB.out)⟩⟩
          ·replace c14 := Bool.eq_false_iff.mpr c14; subst c14; have H1 : (some false) = some r := by rw [if_neg (show ¬ (false = true) by decide)] at H; exact H
           clear H; have H := H1; clear H1; obtain rfl := Option.some.inj H; have hcz17_0 : wr.cell? ⟨gb261, 0, none⟩ = some (.int .i64 a0_0) := (blk_cell BK261.out 0).trans rfl; have hcz17_1 : wr.cell? ⟨gb261, 1, none⟩ = some (.slice A0_1 l0_1.length c0_1) := (blk_cell BK261.out 1).trans rfl; have hcz17_2 : wr.cell? ⟨gb261, 2, none⟩ = some (.string a0_2) := (blk_cell BK261.out 2).trans rfl; have hcz17_3 : wr.cell? ⟨gb261, 3, none⟩ = some (.slice A0_3 l0_3.length c0_3) := (blk_cell BK261.out 3).trans rfl; have hfz17_0 := blk_frozen BK261.out 0; have hfz17_1 := blk_frozen BK261.out 1; have hfz17_2 := blk_frozen BK261.out 2; have hfz17_3 := blk_frozen BK261.out 3; have p262 : 0 ≤ (x5_1 : Int) := of_decide_eq_true (by first | (with_reducible assumption) | assumption); have q262 : x5_1 < (l0_3.length : Int) := of_decide_eq_true (by first | (with_reducible assumption) | assumption); obtain ⟨ad262, A262_1, c262_1, A262_3, c262_3, e262, hx262_0, hx262_1, hx262_2, hx262_3, hl262_1, hi262_1, hl262_3, hi262_3⟩ := at_T25 HR0_3.out x5_1 p262 q262; cases e262
           replace hx262_0 := (HB.out.cell (World.block_lt_of_cell? w _ hx262_0)).trans hx262_0; replace hx262_1 := (HB.out.cell (World.block_lt_of_cell? w _ hx262_1)).trans hx262_1; replace hx262_2 := (HB.out.cell (World.block_lt_of_cell? w _ hx262_2)).trans hx262_2; replace hx262_3 := (HB.out.cell (World.block_lt_of_cell? w _ hx262_3)).trans hx262_3; have HR262_1 := Aside0.mk hi262_1; have HC262_1 := Aside0.mk hl262_1; clear hi262_1 hl262_1; have HR262_3 := Aside0.mk hi262_3; have HC262_3 := Aside0.mk hl262_3; clear hi262_3 hl262_3; replace p262 := eq_true p262; replace q262 := eq_true q262; have p263 : 0 ≤ ((ji8) : Int) := of_decide_eq_true (by first | (with_reducible assumption) | assumption); have q263 : (ji8) < (l0_3.length : Int) := of_decide_eq_true (by first | (with_reducible assumption) | assumption); obtain ⟨ad263, A263_1, c263_1, A263_3, c263_3, e263, hx263_0, hx263_1, hx263_2, hx263_3, hl263_1, hi263_1, hl263_3, hi263_3⟩ := at_T25 HR0_3.out (ji8) p263 q263; obtain rfl : ad262 = ad263 := (by injection e263); replace hx263_0 := (HB.out.cell (World.block_lt_of_cell? w _ hx263_0)).trans hx263_0; replace hx263_1 := (HB.out.cell (World.block_lt_of_cell? w _ hx263_1)).trans hx263_1; replace hx263_2 := (HB.out.cell (World.block_lt_of_cell? w _ hx263_2)).trans hx263_2; replace hx263_3 := (HB.out.cell (World.block_lt_of_cell? w _ hx263_3)).trans hx263_3; have HR263_1 := Aside0.mk hi263_1; have HC263_1 := Aside0.mk hl263_1; clear hi263_1 hl263_1; have HR263_3 := Aside0.mk hi263_3; have HC263_3 := Aside0.mk hl263_3; clear hi263_3 hl263_3; replace p263 := eq_true p263; replace q263 := eq_true q263; have p264 : 0 ≤ (x5_1 : Int) := of_decide_eq_true (by first | (with_reducible assumption) | assumption); have q264 : x5_1 < (l0_3.length : Int) := of_decide_eq_true (by first | (with_reducible assumption) | assumption); obtain ⟨ad264, A264_1, c264_1, A264_3, c264_3, e264, hx264_0, hx264_1, hx264_2, hx264_3, hl264_1, hi264_1, hl264_3, hi264_3⟩ := at_T25 HR0_3.out x5_1 p264 q264; obtain rfl : ad262 = ad264 := (by injection e264); replace hx264_0 := (HB.out.cell (World.block_lt_of_cell? w _ hx264_0)).trans hx264_0; replace hx264_1 := (HB.out.cell (World.block_lt_of_cell? w _ hx264_1)).trans hx264_1; replace hx264_2 := (HB.out.cell (World.block_lt_of_cell? w _ hx264_2)).trans hx264_2; replace hx264_3 := (HB.out.cell (World.block_lt_of_cell? w _ hx264_3)).trans hx264_3; have HR264_1 := Aside0.mk hi264_1; have HC264_1 := Aside0.mk hl264_1; clear hi264_1 hl264_1; have HR264_3 := Aside0.mk hi264_3; have HC264_3 := Aside0.mk hl264_3; clear hi264_3 hl264_3; replace p264 := eq_true p264; replace q264 := eq_true q264; have ea_ := Option.some.inj (hx262_1.symm.trans hx264_1); injection ea_ with ea_ en_ ec_
           subst ea_; subst ec_; clear en_; have ea_ := Option.some.inj (hx262_3.symm.trans hx264_3); injection ea_ with ea_ en_ ec_
           subst ea_; subst ec_; clear en_; go_wp2_with (first | (go_at_call 34; (with_reducible refine (Hnormal.out k1 ((rd_T25 l0_3 x5_1).f0) _ _ ((rd_T25 l0_3 x5_1).f1) ((rd_T25 l0_3 x5_1).f2) _ _ ((rd_T25 l0_3 x5_1).f3) _ _ l1 false _ ?side1 ?side2 ?side3 ?side4 ?side5 ?side6 A13.out).mono ?_); (case side1 => repeat (first | exact (Kd.C_below HR264_1.out HB.out) | (with_reducible refine Kd.C_alloc ?_ _) | (with_reducible refine Kd.C_drewN ?_ _) | (with_reducible refine Kd.C_drew ?_))); (case side2 => exact HC264_1.out); (case side3 => repeat (first | exact (Kd.C_below HR264_3.out HB.out) | (with_reducible refine Kd.C_alloc ?_ _) | (with_reducible refine Kd.C_drewN ?_ _) | (with_reducible refine Kd.C_drew ?_))); (case side4 => exact HC264_3.out); (case side5 => repeat (first | exact (Kd.C_below HR1.out HB.out) | (with_reducible refine Kd.C_alloc ?_ _) | (with_reducible refine Kd.C_drewN ?_ _) | (with_reducible refine Kd.C_drew ?_))); (case side6 => exact HC1.out); rintro e w18 ⟨rfl, hb⟩; have n0_ := Aside0.mk (blk_below (g := gb261) (o := .cells #[.int .i64 a0_0, .slice A0_1 l0_1.length c0_1, .string a0_2, .slice (some ad262) l0_3.length c0_3] 25 (0, 0)) (by (with_reducible repeat (first | refine blk_drewN ?_ _ | refine blk_drew ?_ | refine blk_alloc ?_ _)); exact BK261.out) hb); have n1_ := Aside0.mk (below_step (by repeat (first | (with_reducible first | exact HB.out | apply below_alloc | apply pw_below_drewN | apply below_drew1 | refine below_set ?_ GE261.out) | exact HB.out)) hb); clear BK261; clear HB; have BK261 := n0_; have HB := n1_; clear n0_ n1_; (try clear hb); (try clear hb2); (try clear hk); (try clear hi)))
           go_ret; exact ⟨by first | rfl | (simp [errW_none, errW_some] <;> rfl) | (simp only [← hji8]; first | rfl | (simp [errW_none, errW_some] <;> rfl)) | (simp [*, errW_none, errW_some] <;> rfl), by repeat (first | (with_reducible first | exact HB.out | apply below_alloc | apply pw_below_drewN | apply below_drew1 | refine below_set ?_ GE261.out) | exact HB.out)⟩
        ·rw [if_neg c10] at H; exact absurd H (by simp)
       ·rw [if_neg c9] at H; exact absurd H (by simp)
      ·rw [if_neg c7] at H; have c7b0 : (((rd_T25 l0_3 x5_1).f0) == 0) = false := beq_eq_false_iff_ne.mpr c7; have c7b1 : (((rd_T25 l0_3 x5_1).f0) != 0) = true := bne_iff_ne.mpr c7; replace H := Option.bind_eq_some_iff.mp H; obtain ⟨t267, A190, H⟩ := H; replace H : (if t267 = true then (quillworkref16_kids.l0 M k1 l1 (wrap64 (x5_1 + 1)) a0_0 l0_1 a0_2 l0_3) else (some false)) = some r := H; have A19 := Aside0.mk A190; clear A190; by_cases c20 : t267 = true
       ·subst c20; have H1 : (quillworkref16_kids.l0 M k1 l1 (wrap64 (x5_1 + 1)) a0_0 l0_1 a0_2 l0_3) = some r := by rw [if_pos rfl] at H; exact H
        clear H; have H := H1; clear H1; have H' := Aside0.mk H; clear H; have hcz21_0 : wr.cell? ⟨gb261, 0, none⟩ = some (.int .i64 a0_0) := (blk_cell BK261.out 0).trans rfl; have hcz21_1 : wr.cell? ⟨gb261, 1, none⟩ = some (.slice A0_1 l0_1.length c0_1) := (blk_cell BK261.out 1).trans rfl; have hcz21_2 : wr.cell? ⟨gb261, 2, none⟩ = some (.string a0_2) := (blk_cell BK261.out 2).trans rfl; have hcz21_3 : wr.cell? ⟨gb261, 3, none⟩ = some (.slice A0_3 l0_3.length c0_3) := (blk_cell BK261.out 3).trans rfl; have hfz21_0 := blk_frozen BK261.out 0; have hfz21_1 := blk_frozen BK261.out 1; have hfz21_2 := blk_frozen BK261.out 2; have hfz21_3 := blk_frozen BK261.out 3; have p262 : 0 ≤ (x5_1 : Int) := of_decide_eq_true (by first | (with_reducible assumption) | assumption); have q262 : x5_1 < (l0_3.length : Int) := of_decide_eq_true (by first | (with_reducible assumption) | assumption); obtain ⟨ad262, A262_1, c262_1, A262_3, c262_3, e262, hx262_0, hx262_1, hx262_2, hx262_3, hl262_1, hi262_1, hl262_3, hi262_3⟩ := at_T25 HR0_3.out x5_1 p262 q262; cases e262
        replace hx262_0 := (HB.out.cell (World.block_lt_of_cell? w _ hx262_0)).trans hx262_0; replace hx262_1 := (HB.out.cell (World.block_lt_of_cell? w _ hx262_1)).trans hx262_1; replace hx262_2 := (HB.out.cell (World.block_lt_of_cell? w _ hx262_2)).trans hx262_2; replace hx262_3 := (HB.out.cell (World.block_lt_of_cell? w _ hx262_3)).trans hx262_3; have HR262_1 := Aside0.mk hi262_1; have HC262_1 := Aside0.mk hl262_1; clear hi262_1 hl262_1; have HR262_3 := Aside0.mk hi262_3; have HC262_3 := Aside0.mk hl262_3; clear hi262_3 hl262_3; replace p262 := eq_true p262; replace q262 := eq_true q262; have p266 : 0 ≤ (x5_1 : Int) := of_decide_eq_true (by first | (with_reducible assumption) | assumption); have q266 : x5_1 < (l0_3.length : Int) := of_decide_eq_true (by first | (with_reducible assumption) | assumption); obtain ⟨ad266, A266_1, c266_1, A266_3, c266_3, e266, hx266_0, hx266_1, hx266_2, hx266_3, hl266_1, hi266_1, hl266_3, hi266_3⟩ := at_T25 HR0_3.out x5_1 p266 q266; obtain rfl : ad262 = ad266 := (by injection e266); replace hx266_0 := (HB.out.cell (World.block_lt_of_cell? w _ hx266_0)).trans hx266_0; replace hx266_1 := (HB.out.cell (World.block_lt_of_cell? w _ hx266_1)).trans hx266_1; replace hx266_2 := (HB.out.cell (World.block_lt_of_cell? w _ hx266_2)).trans hx266_2; replace hx266_3 := (HB.out.cell (World.block_lt_of_cell? w _ hx266_3)).trans hx266_3; have HR266_1 := Aside0.mk hi266_1; have HC266_1 := Aside0.mk hl266_1; clear hi266_1 hl266_1; have HR266_3 := Aside0.mk hi266_3; have HC266_3 := Aside0.mk hl266_3; clear hi266_3 hl266_3; replace p266 := eq_true p266; replace q266 := eq_true q266; have ea_ := Option.some.inj (hx262_1.symm.trans hx266_1); injection ea_ with ea_ en_ ec_
        subst ea_; subst ec_; clear en_; have ea_ := Option.some.inj (hx262_3.symm.trans hx266_3); injection ea_ with ea_ en_ ec_
        subst ea_; subst ec_; clear en_; go_wp2_with (first | (go_at_call 34; (with_reducible refine (Hnormal.out k1 ((rd_T25 l0_3 x5_1).f0) _ _ ((rd_T25 l0_3 x5_1).f1) ((rd_T25 l0_3 x5_1).f2) _ _ ((rd_T25 l0_3 x5_1).f3) _ _ l1 true _ ?side1 ?side2 ?side3 ?side4 ?side5 ?side6 A19.out).mono ?_); (case side1 => repeat (first | exact (Kd.C_below HR266_1.out HB.out) | (with_reducible refine Kd.C_alloc ?_ _) | (with_reducible refine Kd.C_drewN ?_ _) | (with_reducible refine Kd.C_drew ?_))); (case side2 => exact HC266_1.out); (case side3 => repeat (first | exact (Kd.C_below HR266_3.out HB.out) | (with_reducible refine Kd.C_alloc ?_ _) | (with_reducible refine Kd.C_drewN ?_ _) | (with_reducible refine Kd.C_drew ?_))); (case side4 => exact HC266_3.out); (case side5 => repeat (first | exact (Kd.C_below HR1.out HB.out) | (with_reducible refine Kd.C_alloc ?_ _) | (with_reducible refine Kd.C_drewN ?_ _) | (with_reducible refine Kd.C_drew ?_))); (case side6 => exact HC1.out); rintro e w22 ⟨rfl, hb⟩; have n0_ := Aside0.mk (blk_below (g := gb261) (o := .cells #[.int .i64 a0_0, .slice A0_1 l0_1.length c0_1, .string a0_2, .slice (some ad262) l0_3.length c0_3] 25 (0, 0)) (by (with_reducible repeat (first | refine blk_drewN ?_ _ | refine blk_drew ?_ | refine blk_alloc ?_ _)); exact BK261.out) hb); have n1_ := Aside0.mk (below_step (by repeat (first | (with_reducible first | exact HB.out | apply below_alloc | apply pw_below_drewN | apply below_drew1 | refine below_set ?_ GE261.out) | exact HB.out)) hb); clear BK261; clear HB; have BK261 := n0_; have HB := n1_; clear n0_ n1_; (try clear hb); (try clear hb2); (try clear hk); (try clear hi)))
        go_roundg k1
        case measure => have := HK1.out; omega
        case rel => exact ⟨(wrap64 (x5_1 + 1)), (by first | rfl | (simp; done) | (simp [*]; done)), H', ⟨by have := HK1.out; omega⟩, ⟨by (with_reducible repeat (first | refine blk_drewN ?_ _ | refine blk_drew ?_ | refine blk_alloc ?_ _)); exact BK261.out⟩, ⟨by repeat (first | (with_reducible first | exact HB.out | apply below_alloc | apply pw_below_drewN | apply below_drew1 | refine below_set ?_ GE261.out) | exact HB.out)⟩⟩
       ·replace c20 := Bool.eq_false_iff.mpr c20; subst c20; have H1 : (some false) = some r := by rw [if_neg (show ¬ (false = true) by decide)] at H; exact H
        clear H; have H := H1; clear H1; obtain rfl := Option.some.inj H; have hcz23_0 : wr.cell? ⟨gb261, 0, none⟩ = some (.int .i64 a0_0) := (blk_cell BK261.out 0).trans rfl; have hcz23_1 : wr.cell? ⟨gb261, 1, none⟩ = some (.slice A0_1 l0_1.length c0_1) := (blk_cell BK261.out 1).trans rfl; have hcz23_2 : wr.cell? ⟨gb261, 2, none⟩ = some (.string a0_2) := (blk_cell BK261.out 2).trans rfl; have hcz23_3 : wr.cell? ⟨gb261, 3, none⟩ = some (.slice A0_3 l0_3.length c0_3) := (blk_cell BK261.out 3).trans rfl; have hfz23_0 := blk_frozen BK261.out 0; have hfz23_1 := blk_frozen BK261.out 1; have hfz23_2 := blk_frozen BK261.out 2; have hfz23_3 := blk_frozen BK261.out 3; have p262 : 0 ≤ (x5_1 : Int) := of_decide_eq_true (by first | (with_reducible assumption) | assumption); have q262 : x5_1 < (l0_3.length : Int) := of_decide_eq_true (by first | (with_reducible assumption) | assumption); obtain ⟨ad262, A262_1, c262_1, A262_3, c262_3, e262, hx262_0, hx262_1, hx262_2, hx262_3, hl262_1, hi262_1, hl262_3, hi262_3⟩ := at_T25 HR0_3.out x5_1 p262 q262; cases e262
        replace hx262_0 := (HB.out.cell (World.block_lt_of_cell? w _ hx262_0)).trans hx262_0; replace hx262_1 := (HB.out.cell (World.block_lt_of_cell? w _ hx262_1)).trans hx262_1; replace hx262_2 := (HB.out.cell (World.block_lt_of_cell? w _ hx262_2)).trans hx262_2; replace hx262_3 := (HB.out.cell (World.block_lt_of_cell? w _ hx262_3)).trans hx262_3; have HR262_1 := Aside0.mk hi262_1; have HC262_1 := Aside0.mk hl262_1; clear hi262_1 hl262_1; have HR262_3 := Aside0.mk hi262_3; have HC262_3 := Aside0.mk hl262_3; clear hi262_3 hl262_3; replace p262 := eq_true p262; replace q262 := eq_true q262; have p266 : 0 ≤ (x5_1 : Int) := of_decide_eq_true (by first | (with_reducible assumption) | assumption); have q266 : x5_1 < (l0_3.length : Int) := of_decide_eq_true (by first | (with_reducible assumption) | assumption); obtain ⟨ad266, A266_1, c266_1, A266_3, c266_3, e266, hx266_0, hx266_1, hx266_2, hx266_3, hl266_1, hi266_1, hl266_3, hi266_3⟩ := at_T25 HR0_3.out x5_1 p266 q266; obtain rfl : ad262 = ad266 := (by injection e266); replace hx266_0 := (HB.out.cell (World.block_lt_of_cell? w _ hx266_0)).trans hx266_0; replace hx266_1 := (HB.out.cell (World.block_lt_of_cell? w _ hx266_1)).trans hx266_1; replace hx266_2 := (HB.out.cell (World.block_lt_of_cell? w _ hx266_2)).trans hx266_2; replace hx266_3 := (HB.out.cell (World.block_lt_of_cell? w _ hx266_3)).trans hx266_3; have HR266_1 := Aside0.mk hi266_1; have HC266_1 := Aside0.mk hl266_1; clear hi266_1 hl266_1; have HR266_3 := Aside0.mk hi266_3; have HC266_3 := Aside0.mk hl266_3; clear hi266_3 hl266_3; replace p266 := eq_true p266; replace q266 := eq_true q266; have ea_ := Option.some.inj (hx262_1.symm.trans hx266_1); injection ea_ with ea_ en_ ec_
        subst ea_; subst ec_; clear en_; have ea_ := Option.some.inj (hx262_3.symm.trans hx266_3); injection ea_ with ea_ en_ ec_
        subst ea_; subst ec_; clear en_; go_wp2_with (first | (go_at_call 34; (with_reducible refine (Hnormal.out k1 ((rd_T25 l0_3 x5_1).f0) _ _ ((rd_T25 l0_3 x5_1).f1) ((rd_T25 l0_3 x5_1).f2) _ _ ((rd_T25 l0_3 x5_1).f3) _ _ l1 false _ ?side1 ?side2 ?side3 ?side4 ?side5 ?side6 A19.out).mono ?_); (case side1 => repeat (first | exact (Kd.C_below HR266_1.out HB.out) | (with_reducible refine Kd.C_alloc ?_ _) | (with_reducible refine Kd.C_drewN ?_ _) | (with_reducible refine Kd.C_drew ?_))); (case side2 => exact HC266_1.out); (case side3 => repeat (first | exact (Kd.C_below HR266_3.out HB.out) | (with_reducible refine Kd.C_alloc ?_ _) | (with_reducible refine Kd.C_drewN ?_ _) | (with_reducible refine Kd.C_drew ?_))); (case side4 => exact HC266_3.out); (case side5 => repeat (first | exact (Kd.C_below HR1.out HB.out) | (with_reducible refine Kd.C_alloc ?_ _) | (with_reducible refine Kd.C_drewN ?_ _) | (with_reducible refine Kd.C_drew ?_))); (case side6 => exact HC1.out); rintro e w24 ⟨rfl, hb⟩; have n0_ := Aside0.mk (blk_below (g := gb261) (o := .cells #[.int .i64 a0_0, .slice A0_1 l0_1.length c0_1, .string a0_2, .slice (some ad262) l0_3.length c0_3] 25 (0, 0)) (by (with_reducible repeat (first | refine blk_drewN ?_ _ | refine blk_drew ?_ | refine blk_alloc ?_ _)); exact BK261.out) hb); have n1_ := Aside0.mk (below_step (by repeat (first | (with_reducible first | exact HB.out | apply below_alloc | apply pw_below_drewN | apply below_drew1 | refine below_set ?_ GE261.out) | exact HB.out)) hb); clear BK261; clear HB; have BK261 := n0_; have HB := n1_; clear n0_ n1_; (try clear hb); (try clear hb2); (try clear hk); (try clear hi)))
        go_ret; exact ⟨by first | rfl | (simp [errW_none, errW_some] <;> rfl) | (simp [*, errW_none, errW_some] <;> rfl), by repeat (first | (with_reducible first | exact HB.out | apply below_alloc | apply pw_below_drewN | apply below_drew1 | refine below_set ?_ GE261.out) | exact HB.out)⟩
     ·rw [if_neg c6] at H; exact absurd H (by simp)
    ·rw [if_neg c5] at H; have c5b0 : decide (0 < x5_1) = false := decide_eq_false c5; clear c5; by_cases c25 : 0 ≤ x5_1
     ·rw [if_pos c25] at H; have c25b0 : decide (0 ≤ x5_1) = true := decide_eq_true c25; clear c25; replace H := Option.bind_eq_some_iff.mp H; obtain ⟨t269, A260, H⟩ := H; replace H : (if t269 = true then (quillworkref16_kids.l0 M k1 l1 (wrap64 (x5_1 + 1)) a0_0 l0_1 a0_2 l0_3) else (some false)) = some r := H; have A26 := Aside0.mk A260; clear A260; by_cases c27 : t269 = true
      ·subst c27; have H1 : (quillworkref16_kids.l0 M k1 l1 (wrap64 (x5_1 + 1)) a0_0 l0_1 a0_2 l0_3) = some r := by rw [if_pos rfl] at H; exact H
       clear H; have H := H1; clear H1; have H' := Aside0.mk H; clear H; have hcz28_0 : wr.cell? ⟨gb261, 0, none⟩ = some (.int .i64 a0_0) := (blk_cell BK261.out 0).trans rfl; have hcz28_1 : wr.cell? ⟨gb261, 1, none⟩ = some (.slice A0_1 l0_1.length c0_1) := (blk_cell BK261.out 1).trans rfl; have hcz28_2 : wr.cell? ⟨gb261, 2, none⟩ = some (.string a0_2) := (blk_cell BK261.out 2).trans rfl; have hcz28_3 : wr.cell? ⟨gb261, 3, none⟩ = some (.slice A0_3 l0_3.length c0_3) := (blk_cell BK261.out 3).trans rfl; have hfz28_0 := blk_frozen BK261.out 0; have hfz28_1 := blk_frozen BK261.out 1; have hfz28_2 := blk_frozen BK261.out 2; have hfz28_3 := blk_frozen BK261.out 3; have p268 : 0 ≤ (x5_1 : Int) := of_decide_eq_true (by first | (with_reducible assumption) | assumption); have q268 : x5_1 < (l0_3.length : Int) := of_decide_eq_true (by first | (with_reducible assumption) | assumption); obtain ⟨ad268, A268_1, c268_1, A268_3, c268_3, e268, hx268_0, hx268_1, hx268_2, hx268_3, hl268_1, hi268_1, hl268_3, hi268_3⟩ := at_T25 HR0_3.out x5_1 p268 q268; cases e268
       replace hx268_0 := (HB.out.cell (World.block_lt_of_cell? w _ hx268_0)).trans hx268_0; replace hx268_1 := (HB.out.cell (World.block_lt_of_cell? w _ hx268_1)).trans hx268_1; replace hx268_2 := (HB.out.cell (World.block_lt_of_cell? w _ hx268_2)).trans hx268_2; replace hx268_3 := (HB.out.cell (World.block_lt_of_cell? w _ hx268_3)).trans hx268_3; have HR268_1 := Aside0.mk hi268_1; have HC268_1 := Aside0.mk hl268_1; clear hi268_1 hl268_1; have HR268_3 := Aside0.mk hi268_3; have HC268_3 := Aside0.mk hl268_3; clear hi268_3 hl268_3; replace p268 := eq_true p268; replace q268 := eq_true q268; go_wp2_with (first | (go_at_call 34; (with_reducible refine (Hnormal.out k1 ((rd_T25 l0_3 x5_1).f0) _ _ ((rd_T25 l0_3 x5_1).f1) ((rd_T25 l0_3 x5_1).f2) _ _ ((rd_T25 l0_3 x5_1).f3) _ _ l1 true _ ?side1 ?side2 ?side3 ?side4 ?side5 ?side6 A26.out).mono ?_); (case side1 => repeat (first | exact (Kd.C_below HR268_1.out HB.out) | (with_reducible refine Kd.C_alloc ?_ _) | (with_reducible refine Kd.C_drewN ?_ _) | (with_reducible refine Kd.C_drew ?_))); (case side2 => exact HC268_1.out); (case side3 => repeat (first | exact (Kd.C_below HR268_3.out HB.out) | (with_reducible refine Kd.C_alloc ?_ _) | (with_reducible refine Kd.C_drewN ?_ _) | (with_reducible refine Kd.C_drew ?_))); (case side4 => exact HC268_3.out); (case side5 => repeat (first | exact (Kd.C_below HR1.out HB.out) | (with_reducible refine Kd.C_alloc ?_ _) | (with_reducible refine Kd.C_drewN ?_ _) | (with_reducible refine Kd.C_drew ?_))); (case side6 => exact HC1.out); rintro e w29 ⟨rfl, hb⟩; have n0_ := Aside0.mk (blk_below (g := gb261) (o := .cells #[.int .i64 a0_0, .slice A0_1 l0_1.length c0_1, .string a0_2, .slice (some ad268) l0_3.length c0_3] 25 (0, 0)) (by (with_reducible repeat (first | refine blk_drewN ?_ _ | refine blk_drew ?_ | refine blk_alloc ?_ _)); exact BK261.out) hb); have n1_ := Aside0.mk (below_step (by repeat (first | (with_reducible first | exact HB.out | apply below_alloc | apply pw_below_drewN | apply below_drew1 | refine below_set ?_ GE261.out) | exact HB.out)) hb); clear BK261; clear HB; have BK261 := n0_; have HB := n1_; clear n0_ n1_; (try clear hb); (try clear hb2); (try clear hk); (try clear hi)))
       go_roundg k1
       case measure => have := HK1.out; omega
       case rel => exact ⟨(wrap64 (x5_1 + 1)), (by first | rfl | (simp; done) | (simp [*]; done)), H', ⟨by have := HK1.out; omega⟩, ⟨by (with_reducible repeat (first | refine blk_drewN ?_ _ | refine blk_drew ?_ | refine blk_alloc ?_ _)); exact BK261.out⟩, ⟨by repeat (first | (with_reducible first | exact HB.out | apply below_alloc | apply pw_below_drewN | apply below_drew1 | refine below_set ?_ GE261.out) | exact HB.out)⟩⟩
      ·replace c27 := Bool.eq_false_iff.mpr c27; subst c27; have H1 : (some false) = some r := by rw [if_neg (show ¬ (false = true) by decide)] at H; exact H
       clear H; have H := H1; clear H1; obtain rfl := Option.some.inj H; have hcz30_0 : wr.cell? ⟨gb261, 0, none⟩ = some (.int .i64 a0_0) := (blk_cell BK261.out 0).trans rfl; have hcz30_1 : wr.cell? ⟨gb261, 1, none⟩ = some (.slice A0_1 l0_1.length c0_1) := (blk_cell BK261.out 1).trans rfl; have hcz30_2 : wr.cell? ⟨gb261, 2, none⟩ = some (.string a0_2) := (blk_cell BK261.out 2).trans rfl; have hcz30_3 : wr.cell? ⟨gb261, 3, none⟩ = some (.slice A0_3 l0_3.length c0_3) := (blk_cell BK261.out 3).trans rfl; have hfz30_0 := blk_frozen BK261.out 0; have hfz30_1 := blk_frozen BK261.out 1; have hfz30_2 := blk_frozen BK261.out 2; have hfz30_3 := blk_frozen BK261.out 3; have p268 : 0 ≤ (x5_1 : Int) := of_decide_eq_true (by first | (with_reducible assumption) | assumption); have q268 : x5_1 < (l0_3.length : Int) := of_decide_eq_true (by first | (with_reducible assumption) | assumption); obtain ⟨ad268, A268_1, c268_1, A268_3, c268_3, e268, hx268_0, hx268_1, hx268_2, hx268_3, hl268_1, hi268_1, hl268_3, hi268_3⟩ := at_T25 HR0_3.out x5_1 p268 q268; cases e268
       replace hx268_0 := (HB.out.cell (World.block_lt_of_cell? w _ hx268_0)).trans hx268_0; replace hx268_1 := (HB.out.cell (World.block_lt_of_cell? w _ hx268_1)).trans hx268_1; replace hx268_2 := (HB.out.cell (World.block_lt_of_cell? w _ hx268_2)).trans hx268_2; replace hx268_3 := (HB.out.cell (World.block_lt_of_cell? w _ hx268_3)).trans hx268_3; have HR268_1 := Aside0.mk hi268_1; have HC268_1 := Aside0.mk hl268_1; clear hi268_1 hl268_1; have HR268_3 := Aside0.mk hi268_3; have HC268_3 := Aside0.mk hl268_3; clear hi268_3 hl268_3; replace p268 := eq_true p268; replace q268 := eq_true q268; go_wp2_with (first | (go_at_call 34; (with_reducible refine (Hnormal.out k1 ((rd_T25 l0_3 x5_1).f0) _ _ ((rd_T25 l0_3 x5_1).f1) ((rd_T25 l0_3 x5_1).f2) _ _ ((rd_T25 l0_3 x5_1).f3) _ _ l1 false _ ?side1 ?side2 ?side3 ?side4 ?side5 ?side6 A26.out).mono ?_); (case side1 => repeat (first | exact (Kd.C_below HR268_1.out HB.out) | (with_reducible refine Kd.C_alloc ?_ _) | (with_reducible refine Kd.C_drewN ?_ _) | (with_reducible refine Kd.C_drew ?_))); (case side2 => exact HC268_1.out); (case side3 => repeat (first | exact (Kd.C_below HR268_3.out HB.out) | (with_reducible refine Kd.C_alloc ?_ _) | (with_reducible refine Kd.C_drewN ?_ _) | (with_reducible refine Kd.C_drew ?_))); (case side4 => exact HC268_3.out); (case side5 => repeat (first | exact (Kd.C_below HR1.out HB.out) | (with_reducible refine Kd.C_alloc ?_ _) | (with_reducible refine Kd.C_drewN ?_ _) | (with_reducible refine Kd.C_drew ?_))); (case side6 => exact HC1.out); rintro e w31 ⟨rfl, hb⟩; have n0_ := Aside0.mk (blk_below (g := gb261) (o := .cells #[.int .i64 a0_0, .slice A0_1 l0_1.length c0_1, .string a0_2, .slice (some ad268) l0_3.length c0_3] 25 (0, 0)) (by (with_reducible repeat (first | refine blk_drewN ?_ _ | refine blk_drew ?_ | refine blk_alloc ?_ _)); exact BK261.out) hb); have n1_ := Aside0.mk (below_step (by repeat (first | (with_reducible first | exact HB.out | apply below_alloc | apply pw_below_drewN | apply below_drew1 | refine below_set ?_ GE261.out) | exact HB.out)) hb); clear BK261; clear HB; have BK261 := n0_; have HB := n1_; clear n0_ n1_; (try clear hb); (try clear hb2); (try clear hk); (try clear hi)))
       go_ret; exact ⟨by first | rfl | (simp [errW_none, errW_some] <;> rfl) | (simp [*, errW_none, errW_some] <;> rfl), by repeat (first | (with_reducible first | exact HB.out | apply below_alloc | apply pw_below_drewN | apply below_drew1 | refine below_set ?_ GE261.out) | exact HB.out)⟩
     ·rw [if_neg c25] at H; exact absurd H (by simp)
   ·rw [if_neg c4] at H; have c4b0 : decide (x5_1 < (l0_3.length : Int)) = false := decide_eq_false c4; clear c4; obtain rfl := Option.some.inj H; have hcz32_0 : wr.cell? ⟨gb261, 0, none⟩ = some (.int .i64 a0_0) := (blk_cell BK261.out 0).trans rfl; have hcz32_1 : wr.cell? ⟨gb261, 1, none⟩ = some (.slice A0_1 l0_1.length c0_1) := (blk_cell BK261.out 1).trans rfl; have hcz32_2 : wr.cell? ⟨gb261, 2, none⟩ = some (.string a0_2) := (blk_cell BK261.out 2).trans rfl; have hcz32_3 : wr.cell? ⟨gb261, 3, none⟩ = some (.slice A0_3 l0_3.length c0_3) := (blk_cell BK261.out 3).trans rfl; have hfz32_0 := blk_frozen BK261.out 0; have hfz32_1 := blk_frozen BK261.out 1; have hfz32_2 := blk_frozen BK261.out 2; have hfz32_3 := blk_frozen BK261.out 3; go_wp2; go_ret; exact ⟨by first | rfl | (simp [errW_none, errW_some] <;> rfl) | (simp [*, errW_none, errW_some] <;> rfl), by repeat (first | (with_reducible first | exact HB.out | apply below_alloc | apply pw_below_drewN | apply below_drew1 | refine below_set ?_ GE261.out) | exact HB.out)⟩
end Go.Proofs.YtbbikcmkcgoamaaDoor.Pp
